/- What is proved: contracts of functions of this translation, walked; their plain meaning. No condition beyond those that each theorem names. -/
import Derived.Test.YtjpaecoehajfdaaDoorTt7
import Derived.Test.YtjpaecoehajfdaaDoorMa4
set_option linter.all false
namespace Go.Ab
open Go Go.Proofs

set_option maxRecDepth 4000
set_option maxHeartbeats 1000000

theorem call3 : callable Tryd.prog 3 = true := by kernel_rfl
theorem call4 : callable Tryd.prog 4 = true := by kernel_rfl
theorem call5 : callable Tryd.prog 5 = true := by kernel_rfl
theorem call6 : callable Tryd.prog 6 = true := by kernel_rfl
theorem call7 : callable Tryd.prog 7 = true := by kernel_rfl
theorem call8 : callable Tryd.prog 8 = true := by kernel_rfl
theorem call9 : callable Tryd.prog 9 = true := by kernel_rfl
theorem call10 : callable Tryd.prog 10 = true := by kernel_rfl
theorem call11 : callable Tryd.prog 11 = true := by kernel_rfl
theorem call12 : callable Tryd.prog 12 = true := by kernel_rfl
theorem call13 : callable Tryd.prog 13 = true := by kernel_rfl
theorem call14 : callable Tryd.prog 14 = true := by kernel_rfl
theorem call19 : callable Tryd.prog 19 = true := by kernel_rfl
theorem call20 : callable Tryd.prog 20 = true := by kernel_rfl
theorem call21 : callable Tryd.prog 21 = true := by kernel_rfl
theorem call22 : callable Tryd.prog 22 = true := by kernel_rfl
theorem call23 : callable Tryd.prog 23 = true := by kernel_rfl
theorem call24 : callable Tryd.prog 24 = true := by kernel_rfl
theorem call25 : callable Tryd.prog 25 = true := by kernel_rfl
theorem call26 : callable Tryd.prog 26 = true := by kernel_rfl
theorem call27 : callable Tryd.prog 27 = true := by kernel_rfl
theorem call28 : callable Tryd.prog 28 = true := by kernel_rfl
theorem call29 : callable Tryd.prog 29 = true := by kernel_rfl
theorem call30 : callable Tryd.prog 30 = true := by kernel_rfl
theorem call31 : callable Tryd.prog 31 = true := by kernel_rfl
theorem call32 : callable Tryd.prog 32 = true := by kernel_rfl
theorem call34 : callable Tryd.prog 34 = true := by kernel_rfl
theorem call35 : callable Tryd.prog 35 = true := by kernel_rfl
theorem call36 : callable Tryd.prog 36 = true := by kernel_rfl
theorem call37 : callable Tryd.prog 37 = true := by kernel_rfl
theorem call38 : callable Tryd.prog 38 = true := by kernel_rfl
theorem call39 : callable Tryd.prog 39 = true := by kernel_rfl
theorem call40 : callable Tryd.prog 40 = true := by kernel_rfl
theorem call41 : callable Tryd.prog 41 = true := by kernel_rfl
theorem call42 : callable Tryd.prog 42 = true := by kernel_rfl
theorem call43 : callable Tryd.prog 43 = true := by kernel_rfl
theorem call45 : callable Tryd.prog 45 = true := by kernel_rfl
theorem call48 : callable Tryd.prog 48 = true := by kernel_rfl
theorem call49 : callable Tryd.prog 49 = true := by kernel_rfl
theorem call51 : callable Tryd.prog 51 = true := by kernel_rfl
theorem call52 : callable Tryd.prog 52 = true := by kernel_rfl
theorem call53 : callable Tryd.prog 53 = true := by kernel_rfl
theorem call54 : callable Tryd.prog 54 = true := by kernel_rfl
theorem call55 : callable Tryd.prog 55 = true := by kernel_rfl
theorem call56 : callable Tryd.prog 56 = true := by kernel_rfl
theorem call57 : callable Tryd.prog 57 = true := by kernel_rfl
theorem call58 : callable Tryd.prog 58 = true := by kernel_rfl
theorem call59 : callable Tryd.prog 59 = true := by kernel_rfl
theorem call60 : callable Tryd.prog 60 = true := by kernel_rfl
theorem call61 : callable Tryd.prog 61 = true := by kernel_rfl
theorem call62 : callable Tryd.prog 62 = true := by kernel_rfl
theorem call66 : callable Tryd.prog 66 = true := by kernel_rfl
theorem call67 : callable Tryd.prog 67 = true := by kernel_rfl
theorem call68 : callable Tryd.prog 68 = true := by kernel_rfl
theorem call69 : callable Tryd.prog 69 = true := by kernel_rfl
theorem call70 : callable Tryd.prog 70 = true := by kernel_rfl
theorem call71 : callable Tryd.prog 71 = true := by kernel_rfl
theorem call72 : callable Tryd.prog 72 = true := by kernel_rfl
theorem call73 : callable Tryd.prog 73 = true := by kernel_rfl
theorem call74 : callable Tryd.prog 74 = true := by kernel_rfl
theorem call75 : callable Tryd.prog 75 = true := by kernel_rfl
theorem call77 : callable Tryd.prog 77 = true := by kernel_rfl
theorem call78 : callable Tryd.prog 78 = true := by kernel_rfl
theorem call79 : callable Tryd.prog 79 = true := by kernel_rfl
theorem call80 : callable Tryd.prog 80 = true := by kernel_rfl
theorem call81 : callable Tryd.prog 81 = true := by kernel_rfl
theorem call82 : callable Tryd.prog 82 = true := by kernel_rfl
theorem call83 : callable Tryd.prog 83 = true := by kernel_rfl
theorem call84 : callable Tryd.prog 84 = true := by kernel_rfl
theorem call85 : callable Tryd.prog 85 = true := by kernel_rfl
theorem call86 : callable Tryd.prog 86 = true := by kernel_rfl
theorem call87 : callable Tryd.prog 87 = true := by kernel_rfl
theorem call88 : callable Tryd.prog 88 = true := by kernel_rfl
theorem call89 : callable Tryd.prog 89 = true := by kernel_rfl
theorem call90 : callable Tryd.prog 90 = true := by kernel_rfl
theorem call91 : callable Tryd.prog 91 = true := by kernel_rfl
theorem call92 : callable Tryd.prog 92 = true := by kernel_rfl
theorem call93 : callable Tryd.prog 93 = true := by kernel_rfl
theorem call94 : callable Tryd.prog 94 = true := by kernel_rfl
theorem call95 : callable Tryd.prog 95 = true := by kernel_rfl
theorem call96 : callable Tryd.prog 96 = true := by kernel_rfl

/-- A number. -/
def numJ (n : Int) : JV := .mk ⟨3, n, [], []⟩ []

theorem le_num (n : Int) : Le (.agg [.val (.int .i64 3), .val (.int .i64 n), .str [], .val (.slice none 0 0), .val (.slice none 0 0)]) (encV (numJ n)) := by
  rw [numJ, encV_mk]
  exact .agg (.cons (.refl _) (.cons (.refl _) (.cons (.refl _) (.cons (.nil 1) (.cons (.nil 5) .nil)))))

/-- How two lists begin alike: is one a beginning of the other? -/
def clashB : List (List UInt8) → List (List UInt8) → Bool
  | [], _ => true
  | _, [] => true
  | x :: l, y :: k => if x = y then clashB l k else false

theorem clashB_iff : ∀ a b : List (List UInt8), clashB a b = true ↔ ∀ i, i < a.length → i < b.length → a[i]? = b[i]?
  | [], b => by simp [clashB]
  | x :: l, [] => by simp [clashB]
  | x :: l, y :: k => by
    simp only [clashB]
    split
    · rename_i e; subst e
      rw [clashB_iff l k]
      constructor
      · intro h i h1 h2
        cases i with
        | zero => rfl
        | succ i => simpa using h i (by simpa using h1) (by simpa using h2)
      · intro h i h1 h2
        have := h (i + 1) (by simpa using h1) (by simpa using h2)
        simpa using this
    · rename_i e
      exact ⟨(fun h => by cases h), fun h => absurd (h 0 (by simp) (by simp)) (by simpa using e)⟩

theorem clashB_false {a b : List (List UInt8)} {i : Nat} (h1 : i < a.length) (h2 : i < b.length) (h : a[i]? ≠ b[i]?) : clashB a b = false := by
  cases e : clashB a b with
  | false => rfl
  | true => exact absurd ((clashB_iff a b).1 e i h1 h2) h

theorem clashB_true {a b : List (List UInt8)} (h : ∀ i, i < a.length → i < b.length → a[i]? = b[i]?) : clashB a b = true := (clashB_iff a b).2 h
end Go.Ab

