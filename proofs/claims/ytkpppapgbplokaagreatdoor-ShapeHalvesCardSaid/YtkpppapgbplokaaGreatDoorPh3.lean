/- What is proved: contracts of functions of this translation, walked; their plain meaning. No condition beyond those that each theorem names. -/
import Derived.Test.YtkpppapgbplokaaGreatDoorPh2
set_option linter.all false
namespace Go.Ac
open Go
set_option maxRecDepth 4000
def sumL : List (List UInt8) → Nat
  | [] => 0
  | x :: l => x.length + 1 + sumL l
theorem splitD_sum (c : UInt8) : ∀ s : List UInt8, sumL (splitD c s) = s.length + 1
  | [] => rfl
  | x :: l => by
    have ih := splitD_sum c l
    simp only [splitD]
    split
    · simp only [sumL, List.length_nil, List.length_cons]; omega
    · split
      · rename_i e; exact absurd e (splitD_ne c l)
      · rename_i y r e
        rw [e] at ih
        simp only [sumL, List.length_cons] at ih ⊢; omega
theorem scan_all : ∀ (l : List (List UInt8)) (n : Nat) (t : Int), n ≤ 16 → scanV l n t = none → n + l.length ≤ 16 ∧ ∀ x ∈ l, segB x = true
  | [], n, t, hn, _ => ⟨by simpa using hn, fun x hx => by cases hx⟩
  | s :: l, n, t, hn, h => by
    rw [scanV] at h
    split at h
    · cases h
    · rename_i q
      have q1 : segB s = true := by cases e : segB s with | true => rfl | false => exact absurd (.inl e) q
      have q2 : n ≠ 16 := fun e => q (.inr e)
      obtain ⟨h1, h2⟩ := scan_all l (n + 1) _ (by omega) h
      refine ⟨by simp only [List.length_cons]; omega, fun x hx => ?_⟩
      rcases List.mem_cons.1 hx with rfl | hx
      · exact q1
      · exact h2 x hx
theorem sum_le (m : Nat) : ∀ l : List (List UInt8), (∀ x ∈ l, x.length ≤ m) → sumL l ≤ l.length * (m + 1)
  | [], _ => by simp [sumL]
  | x :: l, h => by
    have := sum_le m l fun y hy => h y (by simp [hy])
    have := h x (by simp)
    simp only [sumL, List.length_cons, Nat.add_mul]; omega
theorem segB_len {s : List UInt8} (h : segB s = true) : s.length ≤ 64 := by
  simp only [segB, Bool.and_eq_true, decide_eq_true_eq] at h; exact h.1.1.2
theorem parse_ok {s : List UInt8} (h : parseE s = 0) : s.length ≤ 2 ^ 30 ∧ parseP s ≠ [] ∧ (parseP s).length ≤ 16 := by
  have hsum := splitD_sum 46 s
  have hne := splitD_ne 46 s
  unfold parseE at h
  unfold parseP
  cases hq : scanV (splitD 46 s) 0 0 with
  | some t => rw [hq] at h; cases h
  | none =>
    obtain ⟨h1, h2⟩ := scan_all _ 0 0 (by omega) hq
    have h3 := sum_le 64 (splitD 46 s) fun x hx => segB_len (h2 x hx)
    have h4 : (splitD 46 s).length * (64 + 1) ≤ 16 * 65 := Nat.mul_le_mul_right _ (by omega)
    exact ⟨by omega, hne, by simpa using h1⟩
theorem parse_01 (s : List UInt8) : parseE s = 0 ∨ parseE s = 20 := by unfold parseE; split <;> simp
theorem parse_len (s : List UInt8) : (parseP s).length ≤ 16 := by
  rcases parse_01 s with h | h
  · exact (parse_ok h).2.2
  · unfold parseP; unfold parseE at h; split at h
    · omega
    · simp
def pfE : List (List UInt8) → List (List (List UInt8)) → Int
  | [], _ => 0
  | t :: ts, acc => if parseE t ≠ 0 then 20 else if (parseP t).any idxOk = true then 20 else if cB (acc ++ [parseP t]) = true then 23 else pfE ts (acc ++ [parseP t])
theorem pfE_at {ts : List (List UInt8)} {i : Nat} {t : List UInt8} (h : ts[i]? = some t) (acc : List (List (List UInt8))) : pfE (ts.drop i) acc = if parseE t ≠ 0 then 20 else if (parseP t).any idxOk = true then 20 else if cB (acc ++ [parseP t]) = true then 23 else pfE (ts.drop (i + 1)) (acc ++ [parseP t]) := by
  rw [drop_get h, pfE]
theorem pfE_ok : ∀ {ts : List (List UInt8)} {acc : List (List (List UInt8))}, pfE ts acc = 0 → ∀ t ∈ ts, parseE t = 0
  | [], _, _, t, ht => by cases ht
  | s :: ts, acc, h, t, ht => by
    rw [pfE] at h
    split at h
    · cases h
    · rename_i q
      split at h
      · cases h
      · split at h
        · cases h
        · rcases List.mem_cons.1 ht with rfl | ht
          · exact Classical.byContradiction q
          · exact pfE_ok h t ht
theorem any_false {α : Type} {l : List α} {f : α → Bool} (h : ¬ l.any f = true) : ∀ x ∈ l, f x = false := fun x hx => by
  cases e : f x with
  | false => rfl
  | true => exact absurd (List.any_eq_true.2 ⟨x, hx, e⟩) h
end Go.Ac

