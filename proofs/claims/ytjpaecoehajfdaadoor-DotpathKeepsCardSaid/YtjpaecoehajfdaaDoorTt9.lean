/- What is proved: contracts of functions of this translation, walked; their plain meaning. No condition beyond those that each theorem names. -/
import Derived.Test.YtjpaecoehajfdaaDoorTt8
import Derived.Test.YtjpaecoehajfdaaDoorShelf
set_option linter.all false
namespace Go.Ab
open Go Go.Proofs

set_option maxRecDepth 4000
set_option maxHeartbeats 1000000

open Go.RowKit

theorem index83 (W : World) (s : List UInt8) (c : UInt8) : Pure Tryd.prog W 83 [.str s, .str [c]] (iA (Lib.indexByte s c)) :=
  pure_of_calls rfl fun w _ => (Tryd.strings_Index_one ⟨s.toArray⟩ c w).mono fun e w' ⟨h1, h2⟩ => ⟨_, h1, fun _ _ _ _ => .val _ _, h2 ▸ Below.refl _ _⟩
theorem contains72 (W : World) (s : List UInt8) (c : UInt8) : Pure Tryd.prog W 72 [.str s, .str [c]] (bA (decide (0 ≤ Lib.indexByte s c))) :=
  pure_of_calls rfl fun w _ => (Tryd.strings_Contains_one ⟨s.toArray⟩ c w).mono fun e w' ⟨h1, h2⟩ => ⟨_, h1, fun _ _ _ _ => .val _ _, h2 ▸ Below.refl _ _⟩
theorem count82 (W : World) (s : List UInt8) (c : UInt8) : Pure Tryd.prog W 82 [.str s, .str [c]] (iA (Lib.countByte s c)) :=
  pure_of_calls rfl fun w _ => (Tryd.strings_Count_one ⟨s.toArray⟩ c w).mono fun e w' ⟨h1, h2⟩ => ⟨_, h1, fun _ _ _ _ => .val _ _, h2 ▸ Below.refl _ _⟩

theorem indexByte_neg (c : UInt8) : ∀ s : List UInt8, Lib.indexByte s c < 0 ↔ c ∉ s
  | [] => by simp [Lib.indexByte]
  | x :: l => by
    have ih := indexByte_neg c l
    simp only [Lib.indexByte]
    by_cases h : x = c
    · simp [h]
    · have h2 : ¬ c = x := fun e => h e.symm
      simp only [h, beq_iff_eq, if_false, List.mem_cons, h2, false_or, ← ih]
      split <;> omega

/-- The parts between the bytes c. -/
def splitD (c : UInt8) : List UInt8 → List (List UInt8)
  | [] => [[]]
  | x :: l => if x = c then [] :: splitD c l else match splitD c l with | [] => [[x]] | y :: r => (x :: y) :: r

theorem splitD_ne (c : UInt8) : ∀ s : List UInt8, splitD c s ≠ []
  | [] => by simp [splitD]
  | x :: l => by
    simp only [splitD]
    split
    · simp
    · split <;> simp

theorem splitD_one (c : UInt8) : ∀ s : List UInt8, Lib.indexByte s c < 0 → splitD c s = [s]
  | [], _ => rfl
  | x :: l, h => by
    have hm := (indexByte_neg c (x :: l)).1 h
    simp only [List.mem_cons, not_or] at hm
    simp only [splitD]
    rw [if_neg (fun e => hm.1 e.symm), splitD_one c l ((indexByte_neg c l).2 hm.2)]

theorem splitD_cut (c : UInt8) : ∀ (s : List UInt8) (m : Nat), Lib.indexByte s c = m → splitD c s = s.take m :: splitD c (s.drop (m + 1)) ∧ m < s.length
  | [], m, h => by simp [Lib.indexByte] at h
  | x :: l, m, h => by
    simp only [Lib.indexByte] at h
    by_cases hx : x = c
    · simp only [hx, beq_self_eq_true, if_true] at h
      have : m = 0 := by omega
      subst this
      simp [splitD, hx]
    · simp only [hx, beq_iff_eq, if_false] at h
      cases m with
      | zero => split at h <;> omega
      | succ m =>
        obtain ⟨h1, h2⟩ := splitD_cut c l m (by split at h <;> omega)
        simp only [splitD, if_neg hx, h1, List.take_succ_cons, List.drop_succ_cons, List.length_cons]
        exact ⟨trivial, by omega⟩

theorem splitD_len (c : UInt8) : ∀ s : List UInt8, (splitD c s).length = Lib.countByte s c + 1
  | [] => rfl
  | x :: l => by
    have ih := splitD_len c l
    have hne := splitD_ne c l
    simp only [splitD, Lib.countByte, List.count_cons] at ih ⊢
    by_cases hx : x = c
    · simp [hx, ih]
    · simp only [hx, if_false, beq_iff_eq, Nat.add_zero]
      split
      · rename_i e; exact absurd e hne
      · rename_i y r e; rw [e] at ih; simpa using ih

theorem countByte_le (s : List UInt8) (c : UInt8) : Lib.countByte s c ≤ s.length := List.count_le_length

theorem u8_eq (c d : UInt8) (n : Int) (h : (d.toNat : Int) = n) : (c.toNat : Int) = n ↔ c = d := by
  subst h
  exact ⟨fun e => UInt8.toNat_inj.1 (by omega), fun e => by rw [e]⟩
/-- Is a text a segment of a path? -/
def segB (s : List UInt8) : Bool := decide (1 ≤ s.length) && decide (s.length ≤ 64) && !(decide (46 ∈ s)) && !(decide (s[0]? = some 36))

theorem segB_cons (c : UInt8) (s : List UInt8) : segB (c :: s) = (decide (s.length + 1 ≤ 64) && decide (Lib.indexByte (c :: s) 46 < 0) && !decide ((c.toNat : Int) = 36)) := by
  have h3 := u8_eq c 36 36 rfl
  have h1 := indexByte_neg 46 (c :: s)
  unfold segB
  rw [Bool.eq_iff_iff]
  simp only [Bool.and_eq_true, decide_eq_true_eq, Bool.not_eq_true', decide_eq_false_iff_not, List.length_cons, List.getElem?_cons_zero, Option.some.injEq, h1, h3]
  constructor
  · rintro ⟨⟨⟨_, a⟩, b⟩, d⟩; exact ⟨⟨a, b⟩, d⟩
  · rintro ⟨⟨a, b⟩, d⟩; exact ⟨⟨⟨by omega, a⟩, b⟩, d⟩


theorem segment59_cons (W : World) (c : UInt8) (s : List UInt8) : Pure Tryd.prog W 59 [.str (c :: s)] (bA (segB (c :: s))) := by
  refine pure_of_run Tryd.func59 rfl (by rw [Tryd.ntmps59]; simp) ?_
  rw [Tryd.ntmps59, st0_den]
  refine run_seq ?_
  refine run_regS [0] (by decide) (fun F hF => ?_)
  simp only [go_sem, reduceIte, reduceCtorEq, Nat.reduceLT, Nat.reduceLeDiff, Nat.reduceEqDiff, Nat.reduceAdd, Nat.reduceSub, Nat.reduceMul, Int.reduceEq, Int.reduceLT, Int.reduceLE, Int.reduceToNat]
  refine hF _ ?_; clear hF F
  simp only [go_sem, reduceIte, reduceCtorEq, Nat.reduceLT, Nat.reduceLeDiff, Nat.reduceEqDiff, Nat.reduceAdd, Nat.reduceSub, Nat.reduceMul, Int.reduceEq, Int.reduceLT, Int.reduceLE, Int.reduceToNat]
  refine run_seq ?_
  refine run_regS [2] (by decide) (fun F hF => ?_)
  simp only [go_sem, reduceIte, reduceCtorEq, Nat.reduceLT, Nat.reduceLeDiff, Nat.reduceEqDiff, Nat.reduceAdd, Nat.reduceSub, Nat.reduceMul, Int.reduceEq, Int.reduceLT, Int.reduceLE, Int.reduceToNat]
  all_goals (try (refine aB_split (fun hg1 => ?_) (fun hg1 => ?_) <;> simp only [go_sem, reduceIte, reduceCtorEq, Nat.reduceLT, Nat.reduceLeDiff, Nat.reduceEqDiff, Nat.reduceAdd, Nat.reduceSub, Nat.reduceMul, Int.reduceEq, Int.reduceLT, Int.reduceLE, Int.reduceToNat, hg1]))
  all_goals (try (refine aCall_flat0 (contains72 W (c :: s) 46) call72 (.cons (.refl _) (.cons (.refl _) .nil)) (by first | rfl | simp only [cloL, encV_clo, AV.clo, Bool.and_true, iA, bA, lsA_clo]) (by rfl) ?_; simp only [go_sem, reduceIte, reduceCtorEq, Nat.reduceLT, Nat.reduceLeDiff, Nat.reduceEqDiff, Nat.reduceAdd, Nat.reduceSub, Nat.reduceMul, Int.reduceEq, Int.reduceLT, Int.reduceLE, Int.reduceToNat, hg1]))
  all_goals (try (refine aB_split (fun hg2 => ?_) (fun hg2 => ?_) <;> simp only [go_sem, reduceIte, reduceCtorEq, Nat.reduceLT, Nat.reduceLeDiff, Nat.reduceEqDiff, Nat.reduceAdd, Nat.reduceSub, Nat.reduceMul, Int.reduceEq, Int.reduceLT, Int.reduceLE, Int.reduceToNat, hg1, hg2]))
  all_goals (refine hF _ ?_; clear hF F; simp only [go_sem, reduceIte, reduceCtorEq, Nat.reduceLT, Nat.reduceLeDiff, Nat.reduceEqDiff, Nat.reduceAdd, Nat.reduceSub, Nat.reduceMul, Int.reduceEq, Int.reduceLT, Int.reduceLE, Int.reduceToNat])
  ·
    refine run_ret ?_
    refine fin_ofF (.inr rfl) [] rfl ?_ (by first | rfl | rfl | simp only [AV.clo, cloL, encV_clo, Bool.and_true, iA, bA])
    try simp only [go_sem, reduceIte, reduceCtorEq, Nat.reduceLT, Nat.reduceLeDiff, Nat.reduceEqDiff, Nat.reduceAdd, Nat.reduceSub, Nat.reduceMul, Int.reduceEq, Int.reduceLT, Int.reduceLE, Int.reduceToNat, AS.den, resV_one, resV_two, resV_three, clA_nil]
    refine Le.of_eq (bA_congr ?_)
    try simp only [decide_eq_true_eq, decide_eq_false_iff_not, Bool.not_eq_true', Bool.not_eq_false'] at *
    rw [segB_cons]
    by_cases q1 : s.length + 1 ≤ 64 <;> by_cases q2 : Lib.indexByte (c :: s) 46 < 0 <;> simp only [q1, q2, decide_true, decide_false, Bool.true_and, Bool.false_and, Bool.and_false, Bool.and_true] <;> (try rfl) <;> (exfalso; omega)
  ·
    refine run_ret ?_
    refine fin_ofF (.inr rfl) [] rfl ?_ (by first | rfl | rfl | simp only [AV.clo, cloL, encV_clo, Bool.and_true, iA, bA])
    try simp only [go_sem, reduceIte, reduceCtorEq, Nat.reduceLT, Nat.reduceLeDiff, Nat.reduceEqDiff, Nat.reduceAdd, Nat.reduceSub, Nat.reduceMul, Int.reduceEq, Int.reduceLT, Int.reduceLE, Int.reduceToNat, AS.den, resV_one, resV_two, resV_three, clA_nil]
    refine Le.of_eq (bA_congr ?_)
    try simp only [decide_eq_true_eq, decide_eq_false_iff_not, Bool.not_eq_true', Bool.not_eq_false'] at *
    rw [segB_cons]
    by_cases q1 : s.length + 1 ≤ 64 <;> by_cases q2 : Lib.indexByte (c :: s) 46 < 0 <;> simp only [q1, q2, decide_true, decide_false, Bool.true_and, Bool.false_and, Bool.and_false, Bool.and_true] <;> (try rfl) <;> (exfalso; omega)
  ·
    refine run_ret ?_
    refine fin_ofF (.inr rfl) [] rfl ?_ (by first | rfl | rfl | simp only [AV.clo, cloL, encV_clo, Bool.and_true, iA, bA])
    try simp only [go_sem, reduceIte, reduceCtorEq, Nat.reduceLT, Nat.reduceLeDiff, Nat.reduceEqDiff, Nat.reduceAdd, Nat.reduceSub, Nat.reduceMul, Int.reduceEq, Int.reduceLT, Int.reduceLE, Int.reduceToNat, AS.den, resV_one, resV_two, resV_three, clA_nil]
    refine Le.of_eq (bA_congr ?_)
    try simp only [decide_eq_true_eq, decide_eq_false_iff_not, Bool.not_eq_true', Bool.not_eq_false'] at *
    rw [segB_cons]
    by_cases q1 : s.length + 1 ≤ 64 <;> by_cases q2 : Lib.indexByte (c :: s) 46 < 0 <;> simp only [q1, q2, decide_true, decide_false, Bool.true_and, Bool.false_and, Bool.and_false, Bool.and_true] <;> (try rfl) <;> (exfalso; omega)

theorem segment59_nil (W : World)  : Pure Tryd.prog W 59 [.str []] (bA (segB [])) := by
  refine pure_of_run Tryd.func59 rfl (by rw [Tryd.ntmps59]; simp) ?_
  rw [Tryd.ntmps59, st0_den]
  refine run_seq ?_
  refine run_regS [0] (by decide) (fun F hF => ?_)
  simp only [go_sem, reduceIte, reduceCtorEq, Nat.reduceLT, Nat.reduceLeDiff, Nat.reduceEqDiff, Nat.reduceAdd, Nat.reduceSub, Nat.reduceMul, Int.reduceEq, Int.reduceLT, Int.reduceLE, Int.reduceToNat]
  refine hF _ ?_; clear hF F
  simp only [go_sem, reduceIte, reduceCtorEq, Nat.reduceLT, Nat.reduceLeDiff, Nat.reduceEqDiff, Nat.reduceAdd, Nat.reduceSub, Nat.reduceMul, Int.reduceEq, Int.reduceLT, Int.reduceLE, Int.reduceToNat]
  refine run_seq ?_
  refine run_regS [2] (by decide) (fun F hF => ?_)
  simp only [go_sem, reduceIte, reduceCtorEq, Nat.reduceLT, Nat.reduceLeDiff, Nat.reduceEqDiff, Nat.reduceAdd, Nat.reduceSub, Nat.reduceMul, Int.reduceEq, Int.reduceLT, Int.reduceLE, Int.reduceToNat]
  all_goals (try (refine aB_split (fun hg0 => ?_) (fun hg0 => ?_) <;> simp only [go_sem, reduceIte, reduceCtorEq, Nat.reduceLT, Nat.reduceLeDiff, Nat.reduceEqDiff, Nat.reduceAdd, Nat.reduceSub, Nat.reduceMul, Int.reduceEq, Int.reduceLT, Int.reduceLE, Int.reduceToNat, hg0]))
  all_goals (try (exact absurd hg0 (by decide)))
  refine hF _ ?_; clear hF F
  simp only [go_sem, reduceIte, reduceCtorEq, Nat.reduceLT, Nat.reduceLeDiff, Nat.reduceEqDiff, Nat.reduceAdd, Nat.reduceSub, Nat.reduceMul, Int.reduceEq, Int.reduceLT, Int.reduceLE, Int.reduceToNat]
  refine run_ret ?_
  refine fin_ofF (.inr rfl) [] rfl ?_ (by first | rfl | rfl | simp only [AV.clo, cloL, encV_clo, Bool.and_true, iA, bA])
  try simp only [go_sem, reduceIte, reduceCtorEq, Nat.reduceLT, Nat.reduceLeDiff, Nat.reduceEqDiff, Nat.reduceAdd, Nat.reduceSub, Nat.reduceMul, Int.reduceEq, Int.reduceLT, Int.reduceLE, Int.reduceToNat, AS.den, resV_one, resV_two, resV_three, clA_nil]
  exact .refl _


theorem segment59 (W : World) (s : List UInt8) : Pure Tryd.prog W 59 [.str s] (bA (segB s)) := by
  cases s with
  | nil => exact segment59_nil W
  | cons c s => exact segment59_cons W c s


end Go.Ab

