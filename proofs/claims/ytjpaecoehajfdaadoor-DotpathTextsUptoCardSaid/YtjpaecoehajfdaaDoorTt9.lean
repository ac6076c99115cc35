/- What is proved: contracts of functions of this translation, walked; their plain meaning. No condition beyond those that each theorem names. -/
import Derived.Test.YtjpaecoehajfdaaDoorTt8
import Derived.Test.YtjpaecoehajfdaaDoorShelf
set_option linter.all false
namespace Go.Ab
open Go Go.Proofs

set_option maxRecDepth 4000
set_option maxHeartbeats 1000000

open Go.RowKit

theorem index83 (W : World) (s : List UInt8) (c : UInt8) : Pure Tryd.prog W 83 [.str s, .str [c]] (iA (Lib.indexByte s c)) :=
  pure_of_calls rfl fun w _ => (Tryd.strings_Index_one ⟨s.toArray⟩ c w).mono fun e w' ⟨h1, h2⟩ => ⟨_, h1, fun _ _ _ _ => .val _ _, h2 ▸ Below.refl _ _⟩
theorem contains72 (W : World) (s : List UInt8) (c : UInt8) : Pure Tryd.prog W 72 [.str s, .str [c]] (bA (decide (0 ≤ Lib.indexByte s c))) :=
  pure_of_calls rfl fun w _ => (Tryd.strings_Contains_one ⟨s.toArray⟩ c w).mono fun e w' ⟨h1, h2⟩ => ⟨_, h1, fun _ _ _ _ => .val _ _, h2 ▸ Below.refl _ _⟩
theorem count82 (W : World) (s : List UInt8) (c : UInt8) : Pure Tryd.prog W 82 [.str s, .str [c]] (iA (Lib.countByte s c)) :=
  pure_of_calls rfl fun w _ => (Tryd.strings_Count_one ⟨s.toArray⟩ c w).mono fun e w' ⟨h1, h2⟩ => ⟨_, h1, fun _ _ _ _ => .val _ _, h2 ▸ Below.refl _ _⟩

theorem indexByte_neg (c : UInt8) : ∀ s : List UInt8, Lib.indexByte s c < 0 ↔ c ∉ s
  | [] => by simp [Lib.indexByte]
  | x :: l => by
    have ih := indexByte_neg c l
    simp only [Lib.indexByte]
    by_cases h : x = c
    · simp [h]
    · have h2 : ¬ c = x := fun e => h e.symm
      simp only [h, beq_iff_eq, if_false, List.mem_cons, h2, false_or, ← ih]
      split <;> omega

/-- The parts between the bytes c. -/
def splitD (c : UInt8) : List UInt8 → List (List UInt8)
  | [] => [[]]
  | x :: l => if x = c then [] :: splitD c l else match splitD c l with | [] => [[x]] | y :: r => (x :: y) :: r

theorem splitD_ne (c : UInt8) : ∀ s : List UInt8, splitD c s ≠ []
  | [] => by simp [splitD]
  | x :: l => by
    simp only [splitD]
    split
    · simp
    · split <;> simp

theorem splitD_one (c : UInt8) : ∀ s : List UInt8, Lib.indexByte s c < 0 → splitD c s = [s]
  | [], _ => rfl
  | x :: l, h => by
    have hm := (indexByte_neg c (x :: l)).1 h
    simp only [List.mem_cons, not_or] at hm
    simp only [splitD]
    rw [if_neg (fun e => hm.1 e.symm), splitD_one c l ((indexByte_neg c l).2 hm.2)]

theorem splitD_cut (c : UInt8) : ∀ (s : List UInt8) (m : Nat), Lib.indexByte s c = m → splitD c s = s.take m :: splitD c (s.drop (m + 1)) ∧ m < s.length
  | [], m, h => by simp [Lib.indexByte] at h
  | x :: l, m, h => by
    simp only [Lib.indexByte] at h
    by_cases hx : x = c
    · simp only [hx, beq_self_eq_true, if_true] at h
      have : m = 0 := by omega
      subst this
      simp [splitD, hx]
    · simp only [hx, beq_iff_eq, if_false] at h
      cases m with
      | zero => split at h <;> omega
      | succ m =>
        obtain ⟨h1, h2⟩ := splitD_cut c l m (by split at h <;> omega)
        simp only [splitD, if_neg hx, h1, List.take_succ_cons, List.drop_succ_cons, List.length_cons]
        exact ⟨trivial, by omega⟩

theorem splitD_len (c : UInt8) : ∀ s : List UInt8, (splitD c s).length = Lib.countByte s c + 1
  | [] => rfl
  | x :: l => by
    have ih := splitD_len c l
    have hne := splitD_ne c l
    simp only [splitD, Lib.countByte, List.count_cons] at ih ⊢
    by_cases hx : x = c
    · simp [hx, ih]
    · simp only [hx, if_false, beq_iff_eq, Nat.add_zero]
      split
      · rename_i e; exact absurd e hne
      · rename_i y r e; rw [e] at ih; simpa using ih

theorem countByte_le (s : List UInt8) (c : UInt8) : Lib.countByte s c ≤ s.length := List.count_le_length

theorem u8_eq (c d : UInt8) (n : Int) (h : (d.toNat : Int) = n) : (c.toNat : Int) = n ↔ c = d := by
  subst h
  exact ⟨fun e => UInt8.toNat_inj.1 (by omega), fun e => by rw [e]⟩
/-- Is a text a segment of a path? -/
def segB (s : List UInt8) : Bool := decide (1 ≤ s.length) && decide (s.length ≤ 64) && !(decide (46 ∈ s)) && !(decide (s[0]? = some 36))

theorem segB_cons (c : UInt8) (s : List UInt8) : segB (c :: s) = (decide (s.length + 1 ≤ 64) && decide (Lib.indexByte (c :: s) 46 < 0) && !decide ((c.toNat : Int) = 36)) := by
  have h3 := u8_eq c 36 36 rfl
  have h1 := indexByte_neg 46 (c :: s)
  unfold segB
  rw [Bool.eq_iff_iff]
  simp only [Bool.and_eq_true, decide_eq_true_eq, Bool.not_eq_true', decide_eq_false_iff_not, List.length_cons, List.getElem?_cons_zero, Option.some.injEq, h1, h3]
  constructor
  · rintro ⟨⟨⟨_, a⟩, b⟩, d⟩; exact ⟨⟨a, b⟩, d⟩
  · rintro ⟨⟨a, b⟩, d⟩; exact ⟨⟨⟨by omega, a⟩, b⟩, d⟩


theorem segment59_cons (W : World) (c : UInt8) (s : List UInt8) : Pure Tryd.prog W 59 [.str (c :: s)] (bA (segB (c :: s))) := by
  refine pure_of_run Tryd.func59 rfl (by rw [Tryd.ntmps59]; simp) ?_
  rw [Tryd.ntmps59, st0_den]
  refine run_seq ?_
  refine run_regS [0] (by decide) (fun F hF => ?_)
  simp only [go_sem, reduceIte, reduceCtorEq, Nat.reduceLT, Nat.reduceLeDiff, Nat.reduceEqDiff, Nat.reduceAdd, Nat.reduceSub, Nat.reduceMul, Int.reduceEq, Int.reduceLT, Int.reduceLE, Int.reduceToNat]
  refine hF _ ?_; clear hF F
  simp only [go_sem, reduceIte, reduceCtorEq, Nat.reduceLT, Nat.reduceLeDiff, Nat.reduceEqDiff, Nat.reduceAdd, Nat.reduceSub, Nat.reduceMul, Int.reduceEq, Int.reduceLT, Int.reduceLE, Int.reduceToNat]
  refine run_seq ?_
  refine run_regS [2] (by decide) (fun F hF => ?_)
  simp only [go_sem, reduceIte, reduceCtorEq, Nat.reduceLT, Nat.reduceLeDiff, Nat.reduceEqDiff, Nat.reduceAdd, Nat.reduceSub, Nat.reduceMul, Int.reduceEq, Int.reduceLT, Int.reduceLE, Int.reduceToNat]
  all_goals (try (refine aB_split (fun hg1 => ?_) (fun hg1 => ?_) <;> simp only [go_sem, reduceIte, reduceCtorEq, Nat.reduceLT, Nat.reduceLeDiff, Nat.reduceEqDiff, Nat.reduceAdd, Nat.reduceSub, Nat.reduceMul, Int.reduceEq, Int.reduceLT, Int.reduceLE, Int.reduceToNat, hg1]))
  all_goals (try (refine aCall_flat0 (contains72 W (c :: s) 46) call72 (.cons (.refl _) (.cons (.refl _) .nil)) (by first | rfl | simp only [cloL, encV_clo, AV.clo, Bool.and_true, iA, bA, lsA_clo]) (by rfl) ?_; simp only [go_sem, reduceIte, reduceCtorEq, Nat.reduceLT, Nat.reduceLeDiff, Nat.reduceEqDiff, Nat.reduceAdd, Nat.reduceSub, Nat.reduceMul, Int.reduceEq, Int.reduceLT, Int.reduceLE, Int.reduceToNat, hg1]))
  all_goals (try (refine aB_split (fun hg2 => ?_) (fun hg2 => ?_) <;> simp only [go_sem, reduceIte, reduceCtorEq, Nat.reduceLT, Nat.reduceLeDiff, Nat.reduceEqDiff, Nat.reduceAdd, Nat.reduceSub, Nat.reduceMul, Int.reduceEq, Int.reduceLT, Int.reduceLE, Int.reduceToNat, hg1, hg2]))
  all_goals (refine hF _ ?_; clear hF F; simp only [go_sem, reduceIte, reduceCtorEq, Nat.reduceLT, Nat.reduceLeDiff, Nat.reduceEqDiff, Nat.reduceAdd, Nat.reduceSub, Nat.reduceMul, Int.reduceEq, Int.reduceLT, Int.reduceLE, Int.reduceToNat])
  ·
    refine run_ret ?_
    refine fin_ofF (.inr rfl) [] rfl ?_ (by first | rfl | rfl | simp only [AV.clo, cloL, encV_clo, Bool.and_true, iA, bA])
    try simp only [go_sem, reduceIte, reduceCtorEq, Nat.reduceLT, Nat.reduceLeDiff, Nat.reduceEqDiff, Nat.reduceAdd, Nat.reduceSub, Nat.reduceMul, Int.reduceEq, Int.reduceLT, Int.reduceLE, Int.reduceToNat, AS.den, resV_one, resV_two, resV_three, clA_nil]
    refine Le.of_eq (bA_congr ?_)
    try simp only [decide_eq_true_eq, decide_eq_false_iff_not, Bool.not_eq_true', Bool.not_eq_false'] at *
    rw [segB_cons]
    by_cases q1 : s.length + 1 ≤ 64 <;> by_cases q2 : Lib.indexByte (c :: s) 46 < 0 <;> simp only [q1, q2, decide_true, decide_false, Bool.true_and, Bool.false_and, Bool.and_false, Bool.and_true] <;> (try rfl) <;> (exfalso; omega)
  ·
    refine run_ret ?_
    refine fin_ofF (.inr rfl) [] rfl ?_ (by first | rfl | rfl | simp only [AV.clo, cloL, encV_clo, Bool.and_true, iA, bA])
    try simp only [go_sem, reduceIte, reduceCtorEq, Nat.reduceLT, Nat.reduceLeDiff, Nat.reduceEqDiff, Nat.reduceAdd, Nat.reduceSub, Nat.reduceMul, Int.reduceEq, Int.reduceLT, Int.reduceLE, Int.reduceToNat, AS.den, resV_one, resV_two, resV_three, clA_nil]
    refine Le.of_eq (bA_congr ?_)
    try simp only [decide_eq_true_eq, decide_eq_false_iff_not, Bool.not_eq_true', Bool.not_eq_false'] at *
    rw [segB_cons]
    by_cases q1 : s.length + 1 ≤ 64 <;> by_cases q2 : Lib.indexByte (c :: s) 46 < 0 <;> simp only [q1, q2, decide_true, decide_false, Bool.true_and, Bool.false_and, Bool.and_false, Bool.and_true] <;> (try rfl) <;> (exfalso; omega)
  ·
    refine run_ret ?_
    refine fin_ofF (.inr rfl) [] rfl ?_ (by first | rfl | rfl | simp only [AV.clo, cloL, encV_clo, Bool.and_true, iA, bA])
    try simp only [go_sem, reduceIte, reduceCtorEq, Nat.reduceLT, Nat.reduceLeDiff, Nat.reduceEqDiff, Nat.reduceAdd, Nat.reduceSub, Nat.reduceMul, Int.reduceEq, Int.reduceLT, Int.reduceLE, Int.reduceToNat, AS.den, resV_one, resV_two, resV_three, clA_nil]
    refine Le.of_eq (bA_congr ?_)
    try simp only [decide_eq_true_eq, decide_eq_false_iff_not, Bool.not_eq_true', Bool.not_eq_false'] at *
    rw [segB_cons]
    by_cases q1 : s.length + 1 ≤ 64 <;> by_cases q2 : Lib.indexByte (c :: s) 46 < 0 <;> simp only [q1, q2, decide_true, decide_false, Bool.true_and, Bool.false_and, Bool.and_false, Bool.and_true] <;> (try rfl) <;> (exfalso; omega)

theorem segment59_nil (W : World)  : Pure Tryd.prog W 59 [.str []] (bA (segB [])) := by
  refine pure_of_run Tryd.func59 rfl (by rw [Tryd.ntmps59]; simp) ?_
  rw [Tryd.ntmps59, st0_den]
  refine run_seq ?_
  refine run_regS [0] (by decide) (fun F hF => ?_)
  simp only [go_sem, reduceIte, reduceCtorEq, Nat.reduceLT, Nat.reduceLeDiff, Nat.reduceEqDiff, Nat.reduceAdd, Nat.reduceSub, Nat.reduceMul, Int.reduceEq, Int.reduceLT, Int.reduceLE, Int.reduceToNat]
  refine hF _ ?_; clear hF F
  simp only [go_sem, reduceIte, reduceCtorEq, Nat.reduceLT, Nat.reduceLeDiff, Nat.reduceEqDiff, Nat.reduceAdd, Nat.reduceSub, Nat.reduceMul, Int.reduceEq, Int.reduceLT, Int.reduceLE, Int.reduceToNat]
  refine run_seq ?_
  refine run_regS [2] (by decide) (fun F hF => ?_)
  simp only [go_sem, reduceIte, reduceCtorEq, Nat.reduceLT, Nat.reduceLeDiff, Nat.reduceEqDiff, Nat.reduceAdd, Nat.reduceSub, Nat.reduceMul, Int.reduceEq, Int.reduceLT, Int.reduceLE, Int.reduceToNat]
  all_goals (try (refine aB_split (fun hg0 => ?_) (fun hg0 => ?_) <;> simp only [go_sem, reduceIte, reduceCtorEq, Nat.reduceLT, Nat.reduceLeDiff, Nat.reduceEqDiff, Nat.reduceAdd, Nat.reduceSub, Nat.reduceMul, Int.reduceEq, Int.reduceLT, Int.reduceLE, Int.reduceToNat, hg0]))
  all_goals (try (exact absurd hg0 (by decide)))
  refine hF _ ?_; clear hF F
  simp only [go_sem, reduceIte, reduceCtorEq, Nat.reduceLT, Nat.reduceLeDiff, Nat.reduceEqDiff, Nat.reduceAdd, Nat.reduceSub, Nat.reduceMul, Int.reduceEq, Int.reduceLT, Int.reduceLE, Int.reduceToNat]
  refine run_ret ?_
  refine fin_ofF (.inr rfl) [] rfl ?_ (by first | rfl | rfl | simp only [AV.clo, cloL, encV_clo, Bool.and_true, iA, bA])
  try simp only [go_sem, reduceIte, reduceCtorEq, Nat.reduceLT, Nat.reduceLeDiff, Nat.reduceEqDiff, Nat.reduceAdd, Nat.reduceSub, Nat.reduceMul, Int.reduceEq, Int.reduceLT, Int.reduceLE, Int.reduceToNat, AS.den, resV_one, resV_two, resV_three, clA_nil]
  exact .refl _


theorem segment59 (W : World) (s : List UInt8) : Pure Tryd.prog W 59 [.str s] (bA (segB s)) := by
  cases s with
  | nil => exact segment59_nil W
  | cons c s => exact segment59_cons W c s


theorem Segment60 (W : World) (s : List UInt8) (hs : s.length < 2 ^ 62) : Pure Tryd.prog W 60 [.str s] (bA (segB s)) := by
  refine pure_of_run Tryd.func60 rfl (by rw [Tryd.ntmps60]; simp) ?_
  rw [Tryd.ntmps60, st0_den]
  refine run_seq ?_
  refine run_regS [0] (by decide) (fun F hF => ?_)
  simp only [go_sem, reduceIte, reduceCtorEq, Nat.reduceLT, Nat.reduceLeDiff, Nat.reduceEqDiff, Nat.reduceAdd, Nat.reduceSub, Nat.reduceMul, Int.reduceEq, Int.reduceLT, Int.reduceLE, Int.reduceToNat]
  refine hF _ ?_; clear hF F
  simp only [go_sem, reduceIte, reduceCtorEq, Nat.reduceLT, Nat.reduceLeDiff, Nat.reduceEqDiff, Nat.reduceAdd, Nat.reduceSub, Nat.reduceMul, Int.reduceEq, Int.reduceLT, Int.reduceLE, Int.reduceToNat]
  refine run_seq ?_
  refine run_seq ?_
  refine run_regS [0, 3] (by decide) (fun F hF => ?_)
  simp only [go_sem, reduceIte, reduceCtorEq, Nat.reduceLT, Nat.reduceLeDiff, Nat.reduceEqDiff, Nat.reduceAdd, Nat.reduceSub, Nat.reduceMul, Int.reduceEq, Int.reduceLT, Int.reduceLE, Int.reduceToNat]
  refine hF _ ?_; clear hF F
  simp only [go_sem, reduceIte, reduceCtorEq, Nat.reduceLT, Nat.reduceLeDiff, Nat.reduceEqDiff, Nat.reduceAdd, Nat.reduceSub, Nat.reduceMul, Int.reduceEq, Int.reduceLT, Int.reduceLE, Int.reduceToNat]
  refine run_block ?_
  refine run_loopA (fun i : Nat => ⟨[(0, .str s), (3, iA i)], []⟩) (fun i => i ≤ s.length ∧ ∀ k, k < i → s[k]? ≠ some 46) (fun i => s.length - i) (0) (Sub.of_eq rfl) (⟨by omega, by intro k hk; omega⟩) (fun i hi => ?_)
  refine run_seq ?_
  refine run_seq ?_
  refine run_regS [0, 3, 7] (by decide) (fun F hF => ?_)
  simp only [go_sem, reduceIte, reduceCtorEq, Nat.reduceLT, Nat.reduceLeDiff, Nat.reduceEqDiff, Nat.reduceAdd, Nat.reduceSub, Nat.reduceMul, Int.reduceEq, Int.reduceLT, Int.reduceLE, Int.reduceToNat]
  refine hF _ ?_; clear hF F
  simp only [go_sem, reduceIte, reduceCtorEq, Nat.reduceLT, Nat.reduceLeDiff, Nat.reduceEqDiff, Nat.reduceAdd, Nat.reduceSub, Nat.reduceMul, Int.reduceEq, Int.reduceLT, Int.reduceLE, Int.reduceToNat]
  refine run_condA (by simp only [evL, evC, tg, reduceIte, Nat.reduceEqDiff]; rfl) (fun h7 => ?_) (fun h7 => ?_)
  · try simp only [decide_eq_true_eq, decide_eq_false_iff_not, Bool.not_eq_true', Bool.not_eq_false'] at h7
    obtain ⟨x, hx⟩ := getOf (l := s) (i := i) (by omega)
    refine run_skip ?_
    refine run_seq ?_
    refine run_block ?_
    refine run_seq ?_
    refine run_regS [0, 3, 13] (by decide) (fun F hF => ?_)
    simp only [go_sem, reduceIte, reduceCtorEq, Nat.reduceLT, Nat.reduceLeDiff, Nat.reduceEqDiff, Nat.reduceAdd, Nat.reduceSub, Nat.reduceMul, Int.reduceEq, Int.reduceLT, Int.reduceLE, Int.reduceToNat, hx, le_add0, take_map_len, drop_map_len, ge0_len1, one_le_len1, Int.toNat_natCast, Int.reduceToNat, Int.toNat_one, Int.toNat_zero, Int.le_refl, Int.natCast_nonneg, List.drop_zero]
    refine hF _ ?_; clear hF F
    simp only [go_sem, reduceIte, reduceCtorEq, Nat.reduceLT, Nat.reduceLeDiff, Nat.reduceEqDiff, Nat.reduceAdd, Nat.reduceSub, Nat.reduceMul, Int.reduceEq, Int.reduceLT, Int.reduceLE, Int.reduceToNat, hx, le_add0, take_map_len, drop_map_len, ge0_len1, one_le_len1, Int.toNat_natCast, Int.reduceToNat, Int.toNat_one, Int.toNat_zero, Int.le_refl, Int.natCast_nonneg, List.drop_zero]
    refine run_condA (by simp only [evL, evC, tg, reduceIte, Nat.reduceEqDiff]; rfl) (fun h13 => ?_) (fun h13 => ?_)
    · try simp only [decide_eq_true_eq, decide_eq_false_iff_not, Bool.not_eq_true', Bool.not_eq_false'] at h13
      refine run_seq ?_
      refine run_regS [2] (by decide) (fun F hF => ?_)
      simp only [go_sem, reduceIte, reduceCtorEq, Nat.reduceLT, Nat.reduceLeDiff, Nat.reduceEqDiff, Nat.reduceAdd, Nat.reduceSub, Nat.reduceMul, Int.reduceEq, Int.reduceLT, Int.reduceLE, Int.reduceToNat]
      refine hF _ ?_; clear hF F
      simp only [go_sem, reduceIte, reduceCtorEq, Nat.reduceLT, Nat.reduceLeDiff, Nat.reduceEqDiff, Nat.reduceAdd, Nat.reduceSub, Nat.reduceMul, Int.reduceEq, Int.reduceLT, Int.reduceLE, Int.reduceToNat]
      refine run_ret ?_
      refine fin_ofF (.inr rfl) [] rfl ?_ (by first | rfl | rfl | simp only [AV.clo, cloL, encV_clo, Bool.and_true, iA, bA])
      try simp only [go_sem, reduceIte, reduceCtorEq, Nat.reduceLT, Nat.reduceLeDiff, Nat.reduceEqDiff, Nat.reduceAdd, Nat.reduceSub, Nat.reduceMul, Int.reduceEq, Int.reduceLT, Int.reduceLE, Int.reduceToNat, AS.den, resV_one, resV_two, resV_three, clA_nil]
      refine Le.of_eq (bA_congr ?_)
      try simp only [decide_eq_true_eq, decide_eq_false_iff_not, Bool.not_eq_true', Bool.not_eq_false'] at *
      cases s with
      | nil => first
        | rfl
        | (exfalso; simp only [List.length_nil] at *; omega)
      | cons c s =>
        rw [segB_cons]
        have hneg := indexByte_neg 46 (c :: s)
        have hmem : i = (c :: s).length → (46 : UInt8) ∉ c :: s := fun e h => by
          obtain ⟨k, hk, e2⟩ := List.getElem_of_mem h
          exact hi.2 k (by omega) (by rw [List.getElem?_eq_getElem hk, e2])
        have hm2 : i = (c :: s).length → Lib.indexByte (c :: s) 46 < 0 := fun e => hneg.2 (hmem e)
        try (have hx2 : ¬ Lib.indexByte (c :: s) 46 < 0 := fun h => hneg.1 h ((u8_eq x 46 46 rfl).1 h13 ▸ List.mem_of_getElem? hx))
        try (simp only [List.getElem?_cons_zero, Option.some.injEq] at hy; subst hy)
        simp only [List.length_cons] at *
        by_cases q1 : s.length + 1 ≤ 64 <;> by_cases q2 : Lib.indexByte (c :: s) 46 < 0 <;> simp only [q1, q2, decide_true, decide_false, Bool.true_and, Bool.false_and, Bool.and_false, Bool.and_true] <;> (try rfl) <;> exfalso <;> omega
    · try simp only [decide_eq_true_eq, decide_eq_false_iff_not, Bool.not_eq_true', Bool.not_eq_false'] at h13
      refine run_skip ?_
      refine run_blk ?_
      refine run_regS [0, 3] (by decide) (fun F hF => ?_)
      simp only [go_sem, reduceIte, reduceCtorEq, Nat.reduceLT, Nat.reduceLeDiff, Nat.reduceEqDiff, Nat.reduceAdd, Nat.reduceSub, Nat.reduceMul, Int.reduceEq, Int.reduceLT, Int.reduceLE, Int.reduceToNat]
      refine hF _ ?_; clear hF F
      simp only [go_sem, reduceIte, reduceCtorEq, Nat.reduceLT, Nat.reduceLeDiff, Nat.reduceEqDiff, Nat.reduceAdd, Nat.reduceSub, Nat.reduceMul, Int.reduceEq, Int.reduceLT, Int.reduceLE, Int.reduceToNat]
      refine run_chk ?_
      exact ⟨i + 1, ⟨by omega, upto_succ hi.2 (by rw [hx]; intro e; simp only [Option.some.injEq] at e; exact h13 ((u8_eq x 46 46 rfl).2 e))⟩, by omega, Sub.of_eq (by rw [IntWalk.i64_in _ (by omega)]; rfl)⟩
  · try simp only [decide_eq_true_eq, decide_eq_false_iff_not, Bool.not_eq_true', Bool.not_eq_false'] at h7
    refine run_exit (k' := _) rfl ?_
    refine run_seq ?_
    refine run_regS [2] (by decide) (fun F hF => ?_)
    simp only [go_sem, reduceIte, reduceCtorEq, Nat.reduceLT, Nat.reduceLeDiff, Nat.reduceEqDiff, Nat.reduceAdd, Nat.reduceSub, Nat.reduceMul, Int.reduceEq, Int.reduceLT, Int.reduceLE, Int.reduceToNat, Int.toNat_zero, Int.le_refl]
    all_goals (try (refine aB_split (fun hg0 => ?_) (fun hg0 => ?_) <;> simp only [go_sem, reduceIte, reduceCtorEq, Nat.reduceLT, Nat.reduceLeDiff, Nat.reduceEqDiff, Nat.reduceAdd, Nat.reduceSub, Nat.reduceMul, Int.reduceEq, Int.reduceLT, Int.reduceLE, Int.reduceToNat, Int.toNat_zero, Int.le_refl, hg0]))
    all_goals (try (refine aB_split (fun hg1 => ?_) (fun hg1 => ?_) <;> simp only [go_sem, reduceIte, reduceCtorEq, Nat.reduceLT, Nat.reduceLeDiff, Nat.reduceEqDiff, Nat.reduceAdd, Nat.reduceSub, Nat.reduceMul, Int.reduceEq, Int.reduceLT, Int.reduceLE, Int.reduceToNat, Int.toNat_zero, Int.le_refl, hg0, hg1]))
    all_goals (try (obtain ⟨y, hy⟩ := getOf (l := s) (i := 0) (by simp only [decide_eq_true_eq] at hg0; omega); simp only [hy, Int.toNat_zero]))
    simp only [go_sem, reduceIte, reduceCtorEq, Nat.reduceLT, Nat.reduceLeDiff, Nat.reduceEqDiff, Nat.reduceAdd, Nat.reduceSub, Nat.reduceMul, Int.reduceEq, Int.reduceLT, Int.reduceLE, Int.reduceToNat, Int.toNat_zero, Int.le_refl, hg0, hg1]
    all_goals (refine hF _ ?_; clear hF F; simp only [go_sem, reduceIte, reduceCtorEq, Nat.reduceLT, Nat.reduceLeDiff, Nat.reduceEqDiff, Nat.reduceAdd, Nat.reduceSub, Nat.reduceMul, Int.reduceEq, Int.reduceLT, Int.reduceLE, Int.reduceToNat, Int.toNat_zero, Int.le_refl])
    ·
      refine run_ret ?_
      refine fin_ofF (.inr rfl) [] rfl ?_ (by first | rfl | rfl | simp only [AV.clo, cloL, encV_clo, Bool.and_true, iA, bA])
      try simp only [go_sem, reduceIte, reduceCtorEq, Nat.reduceLT, Nat.reduceLeDiff, Nat.reduceEqDiff, Nat.reduceAdd, Nat.reduceSub, Nat.reduceMul, Int.reduceEq, Int.reduceLT, Int.reduceLE, Int.reduceToNat, AS.den, resV_one, resV_two, resV_three, clA_nil]
      refine Le.of_eq (bA_congr ?_)
      try simp only [decide_eq_true_eq, decide_eq_false_iff_not, Bool.not_eq_true', Bool.not_eq_false'] at *
      cases s with
      | nil => first
        | rfl
        | (exfalso; simp only [List.length_nil] at *; omega)
      | cons c s =>
        rw [segB_cons]
        have hneg := indexByte_neg 46 (c :: s)
        have hmem : i = (c :: s).length → (46 : UInt8) ∉ c :: s := fun e h => by
          obtain ⟨k, hk, e2⟩ := List.getElem_of_mem h
          exact hi.2 k (by omega) (by rw [List.getElem?_eq_getElem hk, e2])
        have hm2 : i = (c :: s).length → Lib.indexByte (c :: s) 46 < 0 := fun e => hneg.2 (hmem e)
        try (have hx2 : ¬ Lib.indexByte (c :: s) 46 < 0 := fun h => hneg.1 h ((u8_eq x 46 46 rfl).1 h13 ▸ List.mem_of_getElem? hx))
        try (simp only [List.getElem?_cons_zero, Option.some.injEq] at hy; subst hy)
        simp only [List.length_cons] at *
        by_cases q1 : s.length + 1 ≤ 64 <;> by_cases q2 : Lib.indexByte (c :: s) 46 < 0 <;> simp only [q1, q2, decide_true, decide_false, Bool.true_and, Bool.false_and, Bool.and_false, Bool.and_true] <;> (try rfl) <;> exfalso <;> omega
    ·
      refine run_ret ?_
      refine fin_ofF (.inr rfl) [] rfl ?_ (by first | rfl | rfl | simp only [AV.clo, cloL, encV_clo, Bool.and_true, iA, bA])
      try simp only [go_sem, reduceIte, reduceCtorEq, Nat.reduceLT, Nat.reduceLeDiff, Nat.reduceEqDiff, Nat.reduceAdd, Nat.reduceSub, Nat.reduceMul, Int.reduceEq, Int.reduceLT, Int.reduceLE, Int.reduceToNat, AS.den, resV_one, resV_two, resV_three, clA_nil]
      refine Le.of_eq (bA_congr ?_)
      try simp only [decide_eq_true_eq, decide_eq_false_iff_not, Bool.not_eq_true', Bool.not_eq_false'] at *
      cases s with
      | nil => first
        | rfl
        | (exfalso; simp only [List.length_nil] at *; omega)
      | cons c s =>
        rw [segB_cons]
        have hneg := indexByte_neg 46 (c :: s)
        have hmem : i = (c :: s).length → (46 : UInt8) ∉ c :: s := fun e h => by
          obtain ⟨k, hk, e2⟩ := List.getElem_of_mem h
          exact hi.2 k (by omega) (by rw [List.getElem?_eq_getElem hk, e2])
        have hm2 : i = (c :: s).length → Lib.indexByte (c :: s) 46 < 0 := fun e => hneg.2 (hmem e)
        try (have hx2 : ¬ Lib.indexByte (c :: s) 46 < 0 := fun h => hneg.1 h ((u8_eq x 46 46 rfl).1 h13 ▸ List.mem_of_getElem? hx))
        try (simp only [List.getElem?_cons_zero, Option.some.injEq] at hy; subst hy)
        simp only [List.length_cons] at *
        by_cases q1 : s.length + 1 ≤ 64 <;> by_cases q2 : Lib.indexByte (c :: s) 46 < 0 <;> simp only [q1, q2, decide_true, decide_false, Bool.true_and, Bool.false_and, Bool.and_false, Bool.and_true] <;> (try rfl) <;> exfalso <;> omega
    ·
      refine run_ret ?_
      refine fin_ofF (.inr rfl) [] rfl ?_ (by first | rfl | rfl | simp only [AV.clo, cloL, encV_clo, Bool.and_true, iA, bA])
      try simp only [go_sem, reduceIte, reduceCtorEq, Nat.reduceLT, Nat.reduceLeDiff, Nat.reduceEqDiff, Nat.reduceAdd, Nat.reduceSub, Nat.reduceMul, Int.reduceEq, Int.reduceLT, Int.reduceLE, Int.reduceToNat, AS.den, resV_one, resV_two, resV_three, clA_nil]
      refine Le.of_eq (bA_congr ?_)
      try simp only [decide_eq_true_eq, decide_eq_false_iff_not, Bool.not_eq_true', Bool.not_eq_false'] at *
      cases s with
      | nil => first
        | rfl
        | (exfalso; simp only [List.length_nil] at *; omega)
      | cons c s =>
        rw [segB_cons]
        have hneg := indexByte_neg 46 (c :: s)
        have hmem : i = (c :: s).length → (46 : UInt8) ∉ c :: s := fun e h => by
          obtain ⟨k, hk, e2⟩ := List.getElem_of_mem h
          exact hi.2 k (by omega) (by rw [List.getElem?_eq_getElem hk, e2])
        have hm2 : i = (c :: s).length → Lib.indexByte (c :: s) 46 < 0 := fun e => hneg.2 (hmem e)
        try (have hx2 : ¬ Lib.indexByte (c :: s) 46 < 0 := fun h => hneg.1 h ((u8_eq x 46 46 rfl).1 h13 ▸ List.mem_of_getElem? hx))
        try (simp only [List.getElem?_cons_zero, Option.some.injEq] at hy; subst hy)
        simp only [List.length_cons] at *
        by_cases q1 : s.length + 1 ≤ 64 <;> by_cases q2 : Lib.indexByte (c :: s) 46 < 0 <;> simp only [q1, q2, decide_true, decide_false, Bool.true_and, Bool.false_and, Bool.and_false, Bool.and_true] <;> (try rfl) <;> exfalso <;> omega


/-- Is a list of texts a path? -/
def pathB (p : List (List UInt8)) : Bool := p.all segB && decide (1 ≤ p.length) && decide (p.length ≤ 16)
theorem all_false_of {α : Type} {p : List α} {f : α → Bool} {i : Nat} {x : α} (hx : p[i]? = some x) (h : f x = false) : p.all f = false := by
  cases e : p.all f with
  | false => rfl
  | true => have := List.all_eq_true.1 e x (List.mem_of_getElem? hx); rw [h] at this; cases this


theorem Path62 (W : World) (p : List (List UInt8)) (hp : p.length < 2 ^ 62) (hs : ∀ s ∈ p, s.length < 2 ^ 62) : Pure Tryd.prog W 62 [.sl 1 (p.map AV.str) []] (bA (pathB p)) := by
  refine pure_of_run Tryd.func62 rfl (by rw [Tryd.ntmps62]; simp) ?_
  rw [Tryd.ntmps62, st0_den]
  refine run_seq ?_
  refine run_regS [0] (by decide) (fun F hF => ?_)
  simp only [go_sem, reduceIte, reduceCtorEq, Nat.reduceLT, Nat.reduceLeDiff, Nat.reduceEqDiff, Nat.reduceAdd, Nat.reduceSub, Nat.reduceMul, Int.reduceEq, Int.reduceLT, Int.reduceLE, Int.reduceToNat]
  refine hF _ ?_; clear hF F
  simp only [go_sem, reduceIte, reduceCtorEq, Nat.reduceLT, Nat.reduceLeDiff, Nat.reduceEqDiff, Nat.reduceAdd, Nat.reduceSub, Nat.reduceMul, Int.reduceEq, Int.reduceLT, Int.reduceLE, Int.reduceToNat]
  refine run_seq ?_
  refine run_seq ?_
  refine run_regS [0, 3] (by decide) (fun F hF => ?_)
  simp only [go_sem, reduceIte, reduceCtorEq, Nat.reduceLT, Nat.reduceLeDiff, Nat.reduceEqDiff, Nat.reduceAdd, Nat.reduceSub, Nat.reduceMul, Int.reduceEq, Int.reduceLT, Int.reduceLE, Int.reduceToNat]
  refine hF _ ?_; clear hF F
  simp only [go_sem, reduceIte, reduceCtorEq, Nat.reduceLT, Nat.reduceLeDiff, Nat.reduceEqDiff, Nat.reduceAdd, Nat.reduceSub, Nat.reduceMul, Int.reduceEq, Int.reduceLT, Int.reduceLE, Int.reduceToNat]
  refine run_block ?_
  refine run_loopA (fun i : Nat => ⟨[(0, .sl 1 (p.map AV.str) []), (3, iA i)], []⟩) (fun i => i ≤ p.length ∧ ∀ k, k < i → ∀ s, p[k]? = some s → segB s = true) (fun i => p.length - i) (0) (Sub.of_eq rfl) (⟨by omega, by intro k hk; omega⟩) (fun i hi => ?_)
  refine run_seq ?_
  refine run_seq ?_
  refine run_regS [0, 3, 7] (by decide) (fun F hF => ?_)
  simp only [go_sem, reduceIte, reduceCtorEq, Nat.reduceLT, Nat.reduceLeDiff, Nat.reduceEqDiff, Nat.reduceAdd, Nat.reduceSub, Nat.reduceMul, Int.reduceEq, Int.reduceLT, Int.reduceLE, Int.reduceToNat]
  refine hF _ ?_; clear hF F
  simp only [go_sem, reduceIte, reduceCtorEq, Nat.reduceLT, Nat.reduceLeDiff, Nat.reduceEqDiff, Nat.reduceAdd, Nat.reduceSub, Nat.reduceMul, Int.reduceEq, Int.reduceLT, Int.reduceLE, Int.reduceToNat]
  refine run_condA (by simp only [evL, evC, tg, reduceIte, Nat.reduceEqDiff]; rfl) (fun h7 => ?_) (fun h7 => ?_)
  · try simp only [decide_eq_true_eq, decide_eq_false_iff_not, Bool.not_eq_true', Bool.not_eq_false'] at h7
    obtain ⟨x, hx⟩ := getOf (l := p) (i := i) (by omega)
    refine run_skip ?_
    refine run_seq ?_
    refine run_block ?_
    refine run_seq ?_
    refine run_regS [0, 3, 15] (by decide) (fun F hF => ?_)
    simp only [go_sem, reduceIte, reduceCtorEq, Nat.reduceLT, Nat.reduceLeDiff, Nat.reduceEqDiff, Nat.reduceAdd, Nat.reduceSub, Nat.reduceMul, Int.reduceEq, Int.reduceLT, Int.reduceLE, Int.reduceToNat, hx, List.getElem?_map, Option.map_some, le_add0, take_map_len, drop_map_len, ge0_len1, one_le_len1, Int.toNat_natCast, Int.reduceToNat, Int.toNat_one, Int.toNat_zero, Int.le_refl, Int.natCast_nonneg, List.drop_zero]
    refine aCall_flat0 (Segment60 W x (hs x (List.mem_of_getElem? hx))) call60 (.cons (.refl _) .nil) (by first | rfl | simp only [cloL, encV_clo, AV.clo, Bool.and_true, iA, bA, lsA_clo]) (by rfl) ?_
    try simp only [go_sem, reduceIte, reduceCtorEq, Nat.reduceLT, Nat.reduceLeDiff, Nat.reduceEqDiff, Nat.reduceAdd, Nat.reduceSub, Nat.reduceMul, Int.reduceEq, Int.reduceLT, Int.reduceLE, Int.reduceToNat, hx, List.getElem?_map, Option.map_some, le_add0, take_map_len, drop_map_len, ge0_len1, one_le_len1, Int.toNat_natCast, Int.reduceToNat, Int.toNat_one, Int.toNat_zero, Int.le_refl, Int.natCast_nonneg, List.drop_zero]
    refine hF _ ?_; clear hF F
    simp only [go_sem, reduceIte, reduceCtorEq, Nat.reduceLT, Nat.reduceLeDiff, Nat.reduceEqDiff, Nat.reduceAdd, Nat.reduceSub, Nat.reduceMul, Int.reduceEq, Int.reduceLT, Int.reduceLE, Int.reduceToNat, hx, List.getElem?_map, Option.map_some, le_add0, take_map_len, drop_map_len, ge0_len1, one_le_len1, Int.toNat_natCast, Int.reduceToNat, Int.toNat_one, Int.toNat_zero, Int.le_refl, Int.natCast_nonneg, List.drop_zero]
    refine run_condA (by simp only [evL, evC, tg, reduceIte, Nat.reduceEqDiff]; rfl) (fun h15 => ?_) (fun h15 => ?_)
    · try simp only [decide_eq_true_eq, decide_eq_false_iff_not, Bool.not_eq_true', Bool.not_eq_false'] at h15
      refine run_seq ?_
      refine run_regS [2] (by decide) (fun F hF => ?_)
      simp only [go_sem, reduceIte, reduceCtorEq, Nat.reduceLT, Nat.reduceLeDiff, Nat.reduceEqDiff, Nat.reduceAdd, Nat.reduceSub, Nat.reduceMul, Int.reduceEq, Int.reduceLT, Int.reduceLE, Int.reduceToNat]
      refine hF _ ?_; clear hF F
      simp only [go_sem, reduceIte, reduceCtorEq, Nat.reduceLT, Nat.reduceLeDiff, Nat.reduceEqDiff, Nat.reduceAdd, Nat.reduceSub, Nat.reduceMul, Int.reduceEq, Int.reduceLT, Int.reduceLE, Int.reduceToNat]
      refine run_ret ?_
      refine fin_ofF (.inr rfl) [] rfl ?_ (by first | rfl | rfl | simp only [AV.clo, cloL, encV_clo, Bool.and_true, iA, bA])
      try simp only [go_sem, reduceIte, reduceCtorEq, Nat.reduceLT, Nat.reduceLeDiff, Nat.reduceEqDiff, Nat.reduceAdd, Nat.reduceSub, Nat.reduceMul, Int.reduceEq, Int.reduceLT, Int.reduceLE, Int.reduceToNat, AS.den, resV_one, resV_two, resV_three, clA_nil]
      refine Le.of_eq (bA_congr ?_)
      try simp only [decide_eq_true_eq, decide_eq_false_iff_not, Bool.not_eq_true', Bool.not_eq_false'] at *
      have hall : i = p.length → p.all segB = true := fun e => List.all_eq_true.2 fun s hsm => by
        obtain ⟨k, hk, e2⟩ := List.getElem_of_mem hsm
        exact hi.2 k (by omega) s (by rw [List.getElem?_eq_getElem hk, e2])
      unfold pathB
      try (have hx2 : p.all segB = false := all_false_of hx h15)
      first
      | (rw [hx2]; rfl)
      | (rw [hall (by omega)]
         by_cases q1 : 1 ≤ p.length <;> by_cases q2 : p.length ≤ 16 <;> simp only [q1, q2, decide_true, decide_false, Bool.true_and, Bool.false_and, Bool.and_false, Bool.and_true] <;> (try rfl) <;> first | (exfalso; omega) | (simp; omega) | simp)
    · try simp only [decide_eq_true_eq, decide_eq_false_iff_not, Bool.not_eq_true', Bool.not_eq_false'] at h15
      refine run_skip ?_
      refine run_blk ?_
      refine run_regS [0, 3] (by decide) (fun F hF => ?_)
      simp only [go_sem, reduceIte, reduceCtorEq, Nat.reduceLT, Nat.reduceLeDiff, Nat.reduceEqDiff, Nat.reduceAdd, Nat.reduceSub, Nat.reduceMul, Int.reduceEq, Int.reduceLT, Int.reduceLE, Int.reduceToNat]
      refine hF _ ?_; clear hF F
      simp only [go_sem, reduceIte, reduceCtorEq, Nat.reduceLT, Nat.reduceLeDiff, Nat.reduceEqDiff, Nat.reduceAdd, Nat.reduceSub, Nat.reduceMul, Int.reduceEq, Int.reduceLT, Int.reduceLE, Int.reduceToNat]
      refine run_chk ?_
      exact ⟨i + 1, ⟨by omega, upto_succ hi.2 (fun s e => by rw [hx] at e; cases e; simpa using h15)⟩, by omega, Sub.of_eq (by rw [IntWalk.i64_in _ (by omega)]; rfl)⟩
  · try simp only [decide_eq_true_eq, decide_eq_false_iff_not, Bool.not_eq_true', Bool.not_eq_false'] at h7
    refine run_exit (k' := _) rfl ?_
    refine run_seq ?_
    refine run_regS [2] (by decide) (fun F hF => ?_)
    simp only [go_sem, reduceIte, reduceCtorEq, Nat.reduceLT, Nat.reduceLeDiff, Nat.reduceEqDiff, Nat.reduceAdd, Nat.reduceSub, Nat.reduceMul, Int.reduceEq, Int.reduceLT, Int.reduceLE, Int.reduceToNat]
    all_goals (try (refine aB_split (fun hg0 => ?_) (fun hg0 => ?_) <;> simp only [go_sem, reduceIte, reduceCtorEq, Nat.reduceLT, Nat.reduceLeDiff, Nat.reduceEqDiff, Nat.reduceAdd, Nat.reduceSub, Nat.reduceMul, Int.reduceEq, Int.reduceLT, Int.reduceLE, Int.reduceToNat, hg0]))
    all_goals (refine hF _ ?_; clear hF F; simp only [go_sem, reduceIte, reduceCtorEq, Nat.reduceLT, Nat.reduceLeDiff, Nat.reduceEqDiff, Nat.reduceAdd, Nat.reduceSub, Nat.reduceMul, Int.reduceEq, Int.reduceLT, Int.reduceLE, Int.reduceToNat])
    ·
      refine run_ret ?_
      refine fin_ofF (.inr rfl) [] rfl ?_ (by first | rfl | rfl | simp only [AV.clo, cloL, encV_clo, Bool.and_true, iA, bA])
      try simp only [go_sem, reduceIte, reduceCtorEq, Nat.reduceLT, Nat.reduceLeDiff, Nat.reduceEqDiff, Nat.reduceAdd, Nat.reduceSub, Nat.reduceMul, Int.reduceEq, Int.reduceLT, Int.reduceLE, Int.reduceToNat, AS.den, resV_one, resV_two, resV_three, clA_nil]
      refine Le.of_eq (bA_congr ?_)
      try simp only [decide_eq_true_eq, decide_eq_false_iff_not, Bool.not_eq_true', Bool.not_eq_false'] at *
      have hall : i = p.length → p.all segB = true := fun e => List.all_eq_true.2 fun s hsm => by
        obtain ⟨k, hk, e2⟩ := List.getElem_of_mem hsm
        exact hi.2 k (by omega) s (by rw [List.getElem?_eq_getElem hk, e2])
      unfold pathB
      try (have hx2 : p.all segB = false := all_false_of hx h15)
      first
      | (rw [hx2]; rfl)
      | (rw [hall (by omega)]
         by_cases q1 : 1 ≤ p.length <;> by_cases q2 : p.length ≤ 16 <;> simp only [q1, q2, decide_true, decide_false, Bool.true_and, Bool.false_and, Bool.and_false, Bool.and_true] <;> (try rfl) <;> first | (exfalso; omega) | (simp; omega) | simp)
    ·
      refine run_ret ?_
      refine fin_ofF (.inr rfl) [] rfl ?_ (by first | rfl | rfl | simp only [AV.clo, cloL, encV_clo, Bool.and_true, iA, bA])
      try simp only [go_sem, reduceIte, reduceCtorEq, Nat.reduceLT, Nat.reduceLeDiff, Nat.reduceEqDiff, Nat.reduceAdd, Nat.reduceSub, Nat.reduceMul, Int.reduceEq, Int.reduceLT, Int.reduceLE, Int.reduceToNat, AS.den, resV_one, resV_two, resV_three, clA_nil]
      refine Le.of_eq (bA_congr ?_)
      try simp only [decide_eq_true_eq, decide_eq_false_iff_not, Bool.not_eq_true', Bool.not_eq_false'] at *
      have hall : i = p.length → p.all segB = true := fun e => List.all_eq_true.2 fun s hsm => by
        obtain ⟨k, hk, e2⟩ := List.getElem_of_mem hsm
        exact hi.2 k (by omega) s (by rw [List.getElem?_eq_getElem hk, e2])
      unfold pathB
      try (have hx2 : p.all segB = false := all_false_of hx h15)
      first
      | (rw [hx2]; rfl)
      | (rw [hall (by omega)]
         by_cases q1 : 1 ≤ p.length <;> by_cases q2 : p.length ≤ 16 <;> simp only [q1, q2, decide_true, decide_false, Bool.true_and, Bool.false_and, Bool.and_false, Bool.and_true] <;> (try rfl) <;> first | (exfalso; omega) | (simp; omega) | simp)
end Go.Ab

