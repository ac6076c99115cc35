/- What is proved: contracts of functions of this translation, walked; their plain meaning. No condition beyond those that each theorem names. -/
import Derived.Test.YtjpaecoehajfdaaDoorTt2
set_option linter.all false
namespace Go.Ab
open Go Go.Proofs

set_option maxRecDepth 4000

def dig (b : UInt8) : Bool := decide (48 ≤ b.toNat) && decide (b.toNat ≤ 57)
def numL : List UInt8 → Nat → Nat
  | [], a => a
  | b :: l, a => numL l (10 * a + (b.toNat - 48))
def idxOk (s : List UInt8) : Bool := decide (1 ≤ s.length) && decide (s.length ≤ 9) && !(decide (1 < s.length) && decide ((s.headD 0).toNat = 48)) && s.all dig
def idx (s : List UInt8) : Nat := if idxOk s = true then numL s 0 else 0
def idxA (s : List UInt8) : AV := .tup [iA (idx s), bA (idxOk s)]

theorem idxA_bad {s : List UInt8} (h : idxOk s = false) : AV.tup [.val (.int .i64 0), .val (.bool false)] = idxA s := by
  simp [idxA, idx, h, iA, bA]
theorem idxA_good {s : List UInt8} {n : Int} (h : idxOk s = true) (hn : n = numL s 0) : AV.tup [.val (.int .i64 n), .val (.bool true)] = idxA s := by
  subst hn; simp [idxA, idx, h, iA, bA]

theorem numL_append : ∀ (l m : List UInt8) (a : Nat), numL (l ++ m) a = numL m (numL l a)
  | [], m, a => rfl
  | b :: l, m, a => by simp only [List.cons_append, numL, numL_append l m]

theorem numL_lt : ∀ (l : List UInt8) (a : Nat), l.all dig = true → numL l a < (a + 1) * 10 ^ l.length
  | [], a, _ => by simp [numL]
  | b :: l, a, h => by
    simp only [List.all_cons, Bool.and_eq_true] at h
    have h1 := h.1
    simp only [dig, Bool.and_eq_true, decide_eq_true_eq] at h1
    have := numL_lt l (10 * a + (b.toNat - 48)) h.2
    refine Nat.lt_of_lt_of_le this ?_
    simp only [List.length_cons, Nat.pow_succ]
    calc (10 * a + (b.toNat - 48) + 1) * 10 ^ l.length ≤ (10 * (a + 1)) * 10 ^ l.length := Nat.mul_le_mul_right _ (by omega)
      _ = (a + 1) * (10 ^ l.length * 10) := by rw [Nat.mul_comm 10 (a + 1), Nat.mul_assoc, Nat.mul_comm 10]

theorem take_succ_get {α : Type} {l : List α} {i : Nat} {x : α} (h : l[i]? = some x) : l.take (i + 1) = l.take i ++ [x] := by
  rw [List.take_add_one, h]; rfl

theorem numL_take_lt (s : List UInt8) (i : Nat) (hl : s.length ≤ 9) (h : (s.take i).all dig = true) : numL (s.take i) 0 < 10 ^ 9 := by
  have h1 := numL_lt (s.take i) 0 h
  have h2 : 10 ^ (s.take i).length ≤ 10 ^ 9 := Nat.pow_le_pow_right (by omega) (by simp; omega)
  omega

theorem get0 (s : List UInt8) : s[0]? = bif decide ((s.length : Int) < 1) then none else some (s.headD 0) := by
  cases s with
  | nil => rfl
  | cons b l =>
    have : ¬ (((b :: l).length : Int) < 1) := by simp only [List.length_cons]; omega
    rw [decide_eq_false this]; rfl

theorem idxOk_short {s : List UInt8} (h : (s.length : Int) < 1) : idxOk s = false := by
  have : ¬ 1 ≤ s.length := by omega
  simp [idxOk, this]
theorem idxOk_long {s : List UInt8} (h : 9 < (s.length : Int)) : idxOk s = false := by
  have : ¬ s.length ≤ 9 := by omega
  simp [idxOk, this]
theorem idxOk_zero {s : List UInt8} (h : 1 < (s.length : Int)) (h2 : ((s.headD 0).toNat : Int) = 48) : idxOk s = false := by
  have h : 1 < s.length := by omega
  have h2 : (s.headD 0).toNat = 48 := by omega
  simp only [idxOk, h, h2, decide_true, Bool.and_true, Bool.not_true, Bool.and_false, Bool.false_and]
theorem idxOk_dig {s : List UInt8} {i : Nat} {x : UInt8} (hx : s[i]? = some x) (h : dig x = false) : idxOk s = false := by
  have : s.all dig = false := by
    rw [List.all_eq_false]
    exact ⟨x, List.mem_of_getElem? hx, by simp [h]⟩
  simp [idxOk, this]
theorem idxOk_good {s : List UInt8} (h1 : ¬ (s.length : Int) < 1) (h2 : ¬ 9 < (s.length : Int)) (h3 : ¬ (1 < (s.length : Int)) ∨ ¬ ((s.headD 0).toNat : Int) = 48) (h : s.all dig = true) : idxOk s = true := by
  simp only [idxOk, h, Bool.and_true, Bool.and_eq_true, decide_eq_true_eq, Bool.not_eq_true', Bool.and_eq_false_iff, decide_eq_false_iff_not]
  omega

theorem dig_lo {x : UInt8} (h : (x.toNat : Int) < 48) : dig x = false := by
  have : ¬ 48 ≤ x.toNat := by omega
  simp [dig, this]
theorem dig_hi {x : UInt8} (h : 57 < (x.toNat : Int)) : dig x = false := by
  have : ¬ x.toNat ≤ 57 := by omega
  simp [dig, this]
theorem dig_in {x : UInt8} (h1 : ¬ (x.toNat : Int) < 48) (h2 : ¬ 57 < (x.toNat : Int)) : dig x = true := by
  simp only [dig, Bool.and_eq_true, decide_eq_true_eq]; omega
theorem all_take {s : List UInt8} {i : Nat} {x : UInt8} (hx : s[i]? = some x) (h : (s.take i).all dig = true) (hd : dig x = true) : (s.take (i + 1)).all dig = true := by
  rw [take_succ_get hx, List.all_append, h]; simp [hd]
theorem num_step {s : List UInt8} {i : Nat} {x : UInt8} (hx : s[i]? = some x) (hl : ¬ 9 < (s.length : Int)) (h : (s.take i).all dig = true) (h1 : ¬ (x.toNat : Int) < 48) (h2 : ¬ 57 < (x.toNat : Int)) :
    IntKind.i64.wrap (IntKind.i64.wrap (10 * (numL (s.take i) 0 : Int)) + IntKind.i64.wrap (IntKind.u8.wrap ((x.toNat : Int) - 48))) = (numL (s.take (i + 1)) 0 : Nat) := by
  have hb := numL_take_lt s i (by omega) h
  rw [IntWalk.u8_in _ (by omega), IntWalk.i64_in ((x.toNat : Int) - 48) (by omega), IntWalk.i64_in (10 * _) (by omega), IntWalk.i64_in _ (by omega), take_succ_get hx, numL_append]
  simp only [numL]; omega

theorem index33 (W : World) (s : List UInt8) : Pure Tryd.prog W 33 [.str s] (idxA s) := by
  refine pure_of_run Tryd.func33 rfl (by rw [Tryd.ntmps33]; simp) ?_
  rw [Tryd.ntmps33, st0_den]
  refine run_seq ?_
  refine run_regS [0] (by decide) (fun F hF => ?_)
  simp only [go_sem, reduceIte, reduceCtorEq, Nat.reduceLT, Nat.reduceLeDiff, Nat.reduceEqDiff, Nat.reduceAdd, Nat.reduceSub, Nat.reduceMul, Int.reduceEq, Int.reduceLT, Int.reduceLE, Int.reduceToNat]
  refine hF _ ?_; clear hF F
  simp only [go_sem, reduceIte, reduceCtorEq, Nat.reduceLT, Nat.reduceLeDiff, Nat.reduceEqDiff, Nat.reduceAdd, Nat.reduceSub, Nat.reduceMul, Int.reduceEq, Int.reduceLT, Int.reduceLE, Int.reduceToNat]
  refine run_seq ?_
  refine run_seq ?_
  refine run_regS [0, 23] (by decide) (fun F hF => ?_)
  simp only [go_sem, reduceIte, reduceCtorEq, Nat.reduceLT, Nat.reduceLeDiff, Nat.reduceEqDiff, Nat.reduceAdd, Nat.reduceSub, Nat.reduceMul, Int.reduceEq, Int.reduceLT, Int.reduceLE, Int.reduceToNat, get0 s, Int.reduceToNat, Int.toNat_zero]
  all_goals (try (refine aB_split' (fun hg0 => ?_) (fun hg0 => ?_) <;> simp only [go_sem, reduceIte, reduceCtorEq, Nat.reduceLT, Nat.reduceLeDiff, Nat.reduceEqDiff, Nat.reduceAdd, Nat.reduceSub, Nat.reduceMul, Int.reduceEq, Int.reduceLT, Int.reduceLE, Int.reduceToNat, get0 s, Int.reduceToNat, Int.toNat_zero, hg0]))
  all_goals (try (refine aB_split' (fun hg1 => ?_) (fun hg1 => ?_) <;> simp only [go_sem, reduceIte, reduceCtorEq, Nat.reduceLT, Nat.reduceLeDiff, Nat.reduceEqDiff, Nat.reduceAdd, Nat.reduceSub, Nat.reduceMul, Int.reduceEq, Int.reduceLT, Int.reduceLE, Int.reduceToNat, get0 s, Int.reduceToNat, Int.toNat_zero, hg0, hg1]))
  all_goals (try (refine aB_split (fun hg2 => ?_) (fun hg2 => ?_) <;> simp only [go_sem, reduceIte, reduceCtorEq, Nat.reduceLT, Nat.reduceLeDiff, Nat.reduceEqDiff, Nat.reduceAdd, Nat.reduceSub, Nat.reduceMul, Int.reduceEq, Int.reduceLT, Int.reduceLE, Int.reduceToNat, get0 s, Int.reduceToNat, Int.toNat_zero, hg0, hg1, hg2]))
  all_goals (refine hF _ ?_; clear hF F; simp only [go_sem, reduceIte, reduceCtorEq, Nat.reduceLT, Nat.reduceLeDiff, Nat.reduceEqDiff, Nat.reduceAdd, Nat.reduceSub, Nat.reduceMul, Int.reduceEq, Int.reduceLT, Int.reduceLE, Int.reduceToNat, get0 s, Int.reduceToNat, Int.toNat_zero])
  ·
    refine run_condA (by simp only [evL, evC, tg, reduceIte, Nat.reduceEqDiff]; rfl) (fun h23 => ?_) (fun h23 => ?_)
    · try simp only [decide_eq_true_eq, decide_eq_false_iff_not] at h23
      first
      | exact absurd h23 (by decide)
      | (
        refine run_seq ?_
        refine run_regS [2, 3] (by decide) (fun F hF => ?_)
        simp only [go_sem, reduceIte, reduceCtorEq, Nat.reduceLT, Nat.reduceLeDiff, Nat.reduceEqDiff, Nat.reduceAdd, Nat.reduceSub, Nat.reduceMul, Int.reduceEq, Int.reduceLT, Int.reduceLE, Int.reduceToNat]
        refine hF _ ?_; clear hF F
        simp only [go_sem, reduceIte, reduceCtorEq, Nat.reduceLT, Nat.reduceLeDiff, Nat.reduceEqDiff, Nat.reduceAdd, Nat.reduceSub, Nat.reduceMul, Int.reduceEq, Int.reduceLT, Int.reduceLE, Int.reduceToNat]
        refine run_ret ?_
        refine fin_ofF (.inr rfl) [] rfl ?_ (by first | rfl | rfl | simp only [AV.clo, cloL, encV_clo, Bool.and_true, iA, bA])
        try simp only [go_sem, reduceIte, reduceCtorEq, Nat.reduceLT, Nat.reduceLeDiff, Nat.reduceEqDiff, Nat.reduceAdd, Nat.reduceSub, Nat.reduceMul, Int.reduceEq, Int.reduceLT, Int.reduceLE, Int.reduceToNat, AS.den, resV_one, resV_two, resV_three, clA_nil]
        try simp only [decide_eq_true_eq, decide_eq_false_iff_not] at *
        first
        | exact Le.of_eq (idxA_bad (idxOk_short (by omega)))
        | exact Le.of_eq (idxA_bad (idxOk_long (by omega)))
        | exact Le.of_eq (idxA_bad (idxOk_zero (by omega) (by omega)))
        | exact Le.of_eq (idxA_bad (idxOk_dig hx (dig_lo (by omega))))
        | exact Le.of_eq (idxA_bad (idxOk_dig hx (dig_hi (by omega))))
        | (have ht : s.take i = s := List.take_of_length_le (by omega)
           rw [ht] at hi
           exact Le.of_eq (idxA_good (idxOk_good (by omega) (by omega) (by omega) hi.2) (by rw [ht])))
        )
    · try simp only [decide_eq_true_eq, decide_eq_false_iff_not] at h23
      first
      | exact absurd h23 (by decide)
      | (
        refine run_skip ?_
        refine run_seq ?_
        refine run_regS [0, 4] (by decide) (fun F hF => ?_)
        simp only [go_sem, reduceIte, reduceCtorEq, Nat.reduceLT, Nat.reduceLeDiff, Nat.reduceEqDiff, Nat.reduceAdd, Nat.reduceSub, Nat.reduceMul, Int.reduceEq, Int.reduceLT, Int.reduceLE, Int.reduceToNat]
        refine hF _ ?_; clear hF F
        simp only [go_sem, reduceIte, reduceCtorEq, Nat.reduceLT, Nat.reduceLeDiff, Nat.reduceEqDiff, Nat.reduceAdd, Nat.reduceSub, Nat.reduceMul, Int.reduceEq, Int.reduceLT, Int.reduceLE, Int.reduceToNat]
        refine run_seq ?_
        refine run_seq ?_
        refine run_regS [0, 4, 5] (by decide) (fun F hF => ?_)
        simp only [go_sem, reduceIte, reduceCtorEq, Nat.reduceLT, Nat.reduceLeDiff, Nat.reduceEqDiff, Nat.reduceAdd, Nat.reduceSub, Nat.reduceMul, Int.reduceEq, Int.reduceLT, Int.reduceLE, Int.reduceToNat]
        refine hF _ ?_; clear hF F
        simp only [go_sem, reduceIte, reduceCtorEq, Nat.reduceLT, Nat.reduceLeDiff, Nat.reduceEqDiff, Nat.reduceAdd, Nat.reduceSub, Nat.reduceMul, Int.reduceEq, Int.reduceLT, Int.reduceLE, Int.reduceToNat]
        refine run_block ?_
        refine run_loopA (fun i : Nat => ⟨[(0, .str s), (4, iA (numL (s.take i) 0)), (5, iA i)], []⟩) (fun i => i ≤ s.length ∧ (s.take i).all dig = true) (fun i => s.length - i) 0 (Sub.of_eq rfl) ⟨by omega, by simp⟩ (fun i hi => ?_)
        refine run_seq ?_
        refine run_seq ?_
        refine run_regS [0, 4, 5, 27] (by decide) (fun F hF => ?_)
        simp only [go_sem, reduceIte, reduceCtorEq, Nat.reduceLT, Nat.reduceLeDiff, Nat.reduceEqDiff, Nat.reduceAdd, Nat.reduceSub, Nat.reduceMul, Int.reduceEq, Int.reduceLT, Int.reduceLE, Int.reduceToNat, iA]
        refine hF _ ?_; clear hF F
        simp only [go_sem, reduceIte, reduceCtorEq, Nat.reduceLT, Nat.reduceLeDiff, Nat.reduceEqDiff, Nat.reduceAdd, Nat.reduceSub, Nat.reduceMul, Int.reduceEq, Int.reduceLT, Int.reduceLE, Int.reduceToNat, iA]
        refine run_condA (by simp only [evL, evC, tg, reduceIte, Nat.reduceEqDiff]; rfl) (fun h27 => ?_) (fun h27 => ?_)
        · try simp only [decide_eq_true_eq, decide_eq_false_iff_not] at h27
          obtain ⟨x, hx⟩ : ∃ x, s[i]? = some x := ⟨s[i]'(by omega), by simp⟩
          refine run_skip ?_
          refine run_seq ?_
          refine run_block ?_
          refine run_seq ?_
          refine run_seq ?_
          refine run_regS [0, 4, 5, 39] (by decide) (fun F hF => ?_)
          simp only [go_sem, reduceIte, reduceCtorEq, Nat.reduceLT, Nat.reduceLeDiff, Nat.reduceEqDiff, Nat.reduceAdd, Nat.reduceSub, Nat.reduceMul, Int.reduceEq, Int.reduceLT, Int.reduceLE, Int.reduceToNat, hx, Int.toNat_natCast, Int.natCast_nonneg]
          all_goals (try (refine aB_split' (fun hg0 => ?_) (fun hg0 => ?_) <;> simp only [go_sem, reduceIte, reduceCtorEq, Nat.reduceLT, Nat.reduceLeDiff, Nat.reduceEqDiff, Nat.reduceAdd, Nat.reduceSub, Nat.reduceMul, Int.reduceEq, Int.reduceLT, Int.reduceLE, Int.reduceToNat, hx, Int.toNat_natCast, Int.natCast_nonneg, hg0]))
          all_goals (refine hF _ ?_; clear hF F; simp only [go_sem, reduceIte, reduceCtorEq, Nat.reduceLT, Nat.reduceLeDiff, Nat.reduceEqDiff, Nat.reduceAdd, Nat.reduceSub, Nat.reduceMul, Int.reduceEq, Int.reduceLT, Int.reduceLE, Int.reduceToNat, hx, Int.toNat_natCast, Int.natCast_nonneg])
          ·
            refine run_condA (by simp only [evL, evC, tg, reduceIte, Nat.reduceEqDiff]; rfl) (fun h39 => ?_) (fun h39 => ?_)
            · try simp only [decide_eq_true_eq, decide_eq_false_iff_not] at h39
              first
              | exact absurd h39 (by decide)
              | (
                refine run_seq ?_
                refine run_regS [2, 3] (by decide) (fun F hF => ?_)
                simp only [go_sem, reduceIte, reduceCtorEq, Nat.reduceLT, Nat.reduceLeDiff, Nat.reduceEqDiff, Nat.reduceAdd, Nat.reduceSub, Nat.reduceMul, Int.reduceEq, Int.reduceLT, Int.reduceLE, Int.reduceToNat]
                refine hF _ ?_; clear hF F
                simp only [go_sem, reduceIte, reduceCtorEq, Nat.reduceLT, Nat.reduceLeDiff, Nat.reduceEqDiff, Nat.reduceAdd, Nat.reduceSub, Nat.reduceMul, Int.reduceEq, Int.reduceLT, Int.reduceLE, Int.reduceToNat]
                refine run_ret ?_
                refine fin_ofF (.inr rfl) [] rfl ?_ (by first | rfl | rfl | simp only [AV.clo, cloL, encV_clo, Bool.and_true, iA, bA])
                try simp only [go_sem, reduceIte, reduceCtorEq, Nat.reduceLT, Nat.reduceLeDiff, Nat.reduceEqDiff, Nat.reduceAdd, Nat.reduceSub, Nat.reduceMul, Int.reduceEq, Int.reduceLT, Int.reduceLE, Int.reduceToNat, AS.den, resV_one, resV_two, resV_three, clA_nil]
                try simp only [decide_eq_true_eq, decide_eq_false_iff_not] at *
                first
                | exact Le.of_eq (idxA_bad (idxOk_short (by omega)))
                | exact Le.of_eq (idxA_bad (idxOk_long (by omega)))
                | exact Le.of_eq (idxA_bad (idxOk_zero (by omega) (by omega)))
                | exact Le.of_eq (idxA_bad (idxOk_dig hx (dig_lo (by omega))))
                | exact Le.of_eq (idxA_bad (idxOk_dig hx (dig_hi (by omega))))
                | (have ht : s.take i = s := List.take_of_length_le (by omega)
                   rw [ht] at hi
                   exact Le.of_eq (idxA_good (idxOk_good (by omega) (by omega) (by omega) hi.2) (by rw [ht])))
                )
            · try simp only [decide_eq_true_eq, decide_eq_false_iff_not] at h39
              first
              | exact absurd h39 (by decide)
              | (
                refine run_skip ?_
                refine run_regS [0, 4, 5] (by decide) (fun F hF => ?_)
                simp only [go_sem, reduceIte, reduceCtorEq, Nat.reduceLT, Nat.reduceLeDiff, Nat.reduceEqDiff, Nat.reduceAdd, Nat.reduceSub, Nat.reduceMul, Int.reduceEq, Int.reduceLT, Int.reduceLE, Int.reduceToNat, hx, Int.toNat_natCast, Int.natCast_nonneg, iA]
                refine hF _ ?_; clear hF F
                simp only [go_sem, reduceIte, reduceCtorEq, Nat.reduceLT, Nat.reduceLeDiff, Nat.reduceEqDiff, Nat.reduceAdd, Nat.reduceSub, Nat.reduceMul, Int.reduceEq, Int.reduceLT, Int.reduceLE, Int.reduceToNat, hx, Int.toNat_natCast, Int.natCast_nonneg, iA]
                refine run_blk ?_
                refine run_regS [0, 4, 5] (by decide) (fun F hF => ?_)
                simp only [go_sem, reduceIte, reduceCtorEq, Nat.reduceLT, Nat.reduceLeDiff, Nat.reduceEqDiff, Nat.reduceAdd, Nat.reduceSub, Nat.reduceMul, Int.reduceEq, Int.reduceLT, Int.reduceLE, Int.reduceToNat, iA]
                refine hF _ ?_; clear hF F
                simp only [go_sem, reduceIte, reduceCtorEq, Nat.reduceLT, Nat.reduceLeDiff, Nat.reduceEqDiff, Nat.reduceAdd, Nat.reduceSub, Nat.reduceMul, Int.reduceEq, Int.reduceLT, Int.reduceLE, Int.reduceToNat, iA]
                refine run_chk ?_
                try simp only [decide_eq_true_eq, decide_eq_false_iff_not] at *
                exact ⟨i + 1, ⟨by omega, all_take hx hi.2 (dig_in (by omega) (by omega))⟩, by omega, Sub.of_eq (by rw [num_step hx (by omega) hi.2 (by omega) (by omega), IntWalk.i64_in _ (by omega)]; rfl)⟩
                )
          ·
            refine run_condA (by simp only [evL, evC, tg, reduceIte, Nat.reduceEqDiff]; rfl) (fun h39 => ?_) (fun h39 => ?_)
            · try simp only [decide_eq_true_eq, decide_eq_false_iff_not] at h39
              first
              | exact absurd h39 (by decide)
              | (
                refine run_seq ?_
                refine run_regS [2, 3] (by decide) (fun F hF => ?_)
                simp only [go_sem, reduceIte, reduceCtorEq, Nat.reduceLT, Nat.reduceLeDiff, Nat.reduceEqDiff, Nat.reduceAdd, Nat.reduceSub, Nat.reduceMul, Int.reduceEq, Int.reduceLT, Int.reduceLE, Int.reduceToNat]
                refine hF _ ?_; clear hF F
                simp only [go_sem, reduceIte, reduceCtorEq, Nat.reduceLT, Nat.reduceLeDiff, Nat.reduceEqDiff, Nat.reduceAdd, Nat.reduceSub, Nat.reduceMul, Int.reduceEq, Int.reduceLT, Int.reduceLE, Int.reduceToNat]
                refine run_ret ?_
                refine fin_ofF (.inr rfl) [] rfl ?_ (by first | rfl | rfl | simp only [AV.clo, cloL, encV_clo, Bool.and_true, iA, bA])
                try simp only [go_sem, reduceIte, reduceCtorEq, Nat.reduceLT, Nat.reduceLeDiff, Nat.reduceEqDiff, Nat.reduceAdd, Nat.reduceSub, Nat.reduceMul, Int.reduceEq, Int.reduceLT, Int.reduceLE, Int.reduceToNat, AS.den, resV_one, resV_two, resV_three, clA_nil]
                try simp only [decide_eq_true_eq, decide_eq_false_iff_not] at *
                first
                | exact Le.of_eq (idxA_bad (idxOk_short (by omega)))
                | exact Le.of_eq (idxA_bad (idxOk_long (by omega)))
                | exact Le.of_eq (idxA_bad (idxOk_zero (by omega) (by omega)))
                | exact Le.of_eq (idxA_bad (idxOk_dig hx (dig_lo (by omega))))
                | exact Le.of_eq (idxA_bad (idxOk_dig hx (dig_hi (by omega))))
                | (have ht : s.take i = s := List.take_of_length_le (by omega)
                   rw [ht] at hi
                   exact Le.of_eq (idxA_good (idxOk_good (by omega) (by omega) (by omega) hi.2) (by rw [ht])))
                )
            · try simp only [decide_eq_true_eq, decide_eq_false_iff_not] at h39
              first
              | exact absurd h39 (by decide)
              | (
                refine run_skip ?_
                refine run_regS [0, 4, 5] (by decide) (fun F hF => ?_)
                simp only [go_sem, reduceIte, reduceCtorEq, Nat.reduceLT, Nat.reduceLeDiff, Nat.reduceEqDiff, Nat.reduceAdd, Nat.reduceSub, Nat.reduceMul, Int.reduceEq, Int.reduceLT, Int.reduceLE, Int.reduceToNat, hx, Int.toNat_natCast, Int.natCast_nonneg, iA]
                refine hF _ ?_; clear hF F
                simp only [go_sem, reduceIte, reduceCtorEq, Nat.reduceLT, Nat.reduceLeDiff, Nat.reduceEqDiff, Nat.reduceAdd, Nat.reduceSub, Nat.reduceMul, Int.reduceEq, Int.reduceLT, Int.reduceLE, Int.reduceToNat, hx, Int.toNat_natCast, Int.natCast_nonneg, iA]
                refine run_blk ?_
                refine run_regS [0, 4, 5] (by decide) (fun F hF => ?_)
                simp only [go_sem, reduceIte, reduceCtorEq, Nat.reduceLT, Nat.reduceLeDiff, Nat.reduceEqDiff, Nat.reduceAdd, Nat.reduceSub, Nat.reduceMul, Int.reduceEq, Int.reduceLT, Int.reduceLE, Int.reduceToNat, iA]
                refine hF _ ?_; clear hF F
                simp only [go_sem, reduceIte, reduceCtorEq, Nat.reduceLT, Nat.reduceLeDiff, Nat.reduceEqDiff, Nat.reduceAdd, Nat.reduceSub, Nat.reduceMul, Int.reduceEq, Int.reduceLT, Int.reduceLE, Int.reduceToNat, iA]
                refine run_chk ?_
                try simp only [decide_eq_true_eq, decide_eq_false_iff_not] at *
                exact ⟨i + 1, ⟨by omega, all_take hx hi.2 (dig_in (by omega) (by omega))⟩, by omega, Sub.of_eq (by rw [num_step hx (by omega) hi.2 (by omega) (by omega), IntWalk.i64_in _ (by omega)]; rfl)⟩
                )
        · try simp only [decide_eq_true_eq, decide_eq_false_iff_not] at h27
          refine run_exit (k' := _) rfl ?_
          refine run_seq ?_
          refine run_regS [2, 3] (by decide) (fun F hF => ?_)
          simp only [go_sem, reduceIte, reduceCtorEq, Nat.reduceLT, Nat.reduceLeDiff, Nat.reduceEqDiff, Nat.reduceAdd, Nat.reduceSub, Nat.reduceMul, Int.reduceEq, Int.reduceLT, Int.reduceLE, Int.reduceToNat, iA]
          refine hF _ ?_; clear hF F
          simp only [go_sem, reduceIte, reduceCtorEq, Nat.reduceLT, Nat.reduceLeDiff, Nat.reduceEqDiff, Nat.reduceAdd, Nat.reduceSub, Nat.reduceMul, Int.reduceEq, Int.reduceLT, Int.reduceLE, Int.reduceToNat, iA]
          refine run_ret ?_
          refine fin_ofF (.inr rfl) [] rfl ?_ (by first | rfl | rfl | simp only [AV.clo, cloL, encV_clo, Bool.and_true, iA, bA])
          try simp only [go_sem, reduceIte, reduceCtorEq, Nat.reduceLT, Nat.reduceLeDiff, Nat.reduceEqDiff, Nat.reduceAdd, Nat.reduceSub, Nat.reduceMul, Int.reduceEq, Int.reduceLT, Int.reduceLE, Int.reduceToNat, AS.den, resV_one, resV_two, resV_three, clA_nil]
          try simp only [decide_eq_true_eq, decide_eq_false_iff_not] at *
          first
          | exact Le.of_eq (idxA_bad (idxOk_short (by omega)))
          | exact Le.of_eq (idxA_bad (idxOk_long (by omega)))
          | exact Le.of_eq (idxA_bad (idxOk_zero (by omega) (by omega)))
          | exact Le.of_eq (idxA_bad (idxOk_dig hx (dig_lo (by omega))))
          | exact Le.of_eq (idxA_bad (idxOk_dig hx (dig_hi (by omega))))
          | (have ht : s.take i = s := List.take_of_length_le (by omega)
             rw [ht] at hi
             exact Le.of_eq (idxA_good (idxOk_good (by omega) (by omega) (by omega) hi.2) (by rw [ht])))
        )
  ·
    refine run_condA (by simp only [evL, evC, tg, reduceIte, Nat.reduceEqDiff]; rfl) (fun h23 => ?_) (fun h23 => ?_)
    · try simp only [decide_eq_true_eq, decide_eq_false_iff_not] at h23
      first
      | exact absurd h23 (by decide)
      | (
        refine run_seq ?_
        refine run_regS [2, 3] (by decide) (fun F hF => ?_)
        simp only [go_sem, reduceIte, reduceCtorEq, Nat.reduceLT, Nat.reduceLeDiff, Nat.reduceEqDiff, Nat.reduceAdd, Nat.reduceSub, Nat.reduceMul, Int.reduceEq, Int.reduceLT, Int.reduceLE, Int.reduceToNat]
        refine hF _ ?_; clear hF F
        simp only [go_sem, reduceIte, reduceCtorEq, Nat.reduceLT, Nat.reduceLeDiff, Nat.reduceEqDiff, Nat.reduceAdd, Nat.reduceSub, Nat.reduceMul, Int.reduceEq, Int.reduceLT, Int.reduceLE, Int.reduceToNat]
        refine run_ret ?_
        refine fin_ofF (.inr rfl) [] rfl ?_ (by first | rfl | rfl | simp only [AV.clo, cloL, encV_clo, Bool.and_true, iA, bA])
        try simp only [go_sem, reduceIte, reduceCtorEq, Nat.reduceLT, Nat.reduceLeDiff, Nat.reduceEqDiff, Nat.reduceAdd, Nat.reduceSub, Nat.reduceMul, Int.reduceEq, Int.reduceLT, Int.reduceLE, Int.reduceToNat, AS.den, resV_one, resV_two, resV_three, clA_nil]
        try simp only [decide_eq_true_eq, decide_eq_false_iff_not] at *
        first
        | exact Le.of_eq (idxA_bad (idxOk_short (by omega)))
        | exact Le.of_eq (idxA_bad (idxOk_long (by omega)))
        | exact Le.of_eq (idxA_bad (idxOk_zero (by omega) (by omega)))
        | exact Le.of_eq (idxA_bad (idxOk_dig hx (dig_lo (by omega))))
        | exact Le.of_eq (idxA_bad (idxOk_dig hx (dig_hi (by omega))))
        | (have ht : s.take i = s := List.take_of_length_le (by omega)
           rw [ht] at hi
           exact Le.of_eq (idxA_good (idxOk_good (by omega) (by omega) (by omega) hi.2) (by rw [ht])))
        )
    · try simp only [decide_eq_true_eq, decide_eq_false_iff_not] at h23
      first
      | exact absurd h23 (by decide)
      | (
        refine run_skip ?_
        refine run_seq ?_
        refine run_regS [0, 4] (by decide) (fun F hF => ?_)
        simp only [go_sem, reduceIte, reduceCtorEq, Nat.reduceLT, Nat.reduceLeDiff, Nat.reduceEqDiff, Nat.reduceAdd, Nat.reduceSub, Nat.reduceMul, Int.reduceEq, Int.reduceLT, Int.reduceLE, Int.reduceToNat]
        refine hF _ ?_; clear hF F
        simp only [go_sem, reduceIte, reduceCtorEq, Nat.reduceLT, Nat.reduceLeDiff, Nat.reduceEqDiff, Nat.reduceAdd, Nat.reduceSub, Nat.reduceMul, Int.reduceEq, Int.reduceLT, Int.reduceLE, Int.reduceToNat]
        refine run_seq ?_
        refine run_seq ?_
        refine run_regS [0, 4, 5] (by decide) (fun F hF => ?_)
        simp only [go_sem, reduceIte, reduceCtorEq, Nat.reduceLT, Nat.reduceLeDiff, Nat.reduceEqDiff, Nat.reduceAdd, Nat.reduceSub, Nat.reduceMul, Int.reduceEq, Int.reduceLT, Int.reduceLE, Int.reduceToNat]
        refine hF _ ?_; clear hF F
        simp only [go_sem, reduceIte, reduceCtorEq, Nat.reduceLT, Nat.reduceLeDiff, Nat.reduceEqDiff, Nat.reduceAdd, Nat.reduceSub, Nat.reduceMul, Int.reduceEq, Int.reduceLT, Int.reduceLE, Int.reduceToNat]
        refine run_block ?_
        refine run_loopA (fun i : Nat => ⟨[(0, .str s), (4, iA (numL (s.take i) 0)), (5, iA i)], []⟩) (fun i => i ≤ s.length ∧ (s.take i).all dig = true) (fun i => s.length - i) 0 (Sub.of_eq rfl) ⟨by omega, by simp⟩ (fun i hi => ?_)
        refine run_seq ?_
        refine run_seq ?_
        refine run_regS [0, 4, 5, 27] (by decide) (fun F hF => ?_)
        simp only [go_sem, reduceIte, reduceCtorEq, Nat.reduceLT, Nat.reduceLeDiff, Nat.reduceEqDiff, Nat.reduceAdd, Nat.reduceSub, Nat.reduceMul, Int.reduceEq, Int.reduceLT, Int.reduceLE, Int.reduceToNat, iA]
        refine hF _ ?_; clear hF F
        simp only [go_sem, reduceIte, reduceCtorEq, Nat.reduceLT, Nat.reduceLeDiff, Nat.reduceEqDiff, Nat.reduceAdd, Nat.reduceSub, Nat.reduceMul, Int.reduceEq, Int.reduceLT, Int.reduceLE, Int.reduceToNat, iA]
        refine run_condA (by simp only [evL, evC, tg, reduceIte, Nat.reduceEqDiff]; rfl) (fun h27 => ?_) (fun h27 => ?_)
        · try simp only [decide_eq_true_eq, decide_eq_false_iff_not] at h27
          obtain ⟨x, hx⟩ : ∃ x, s[i]? = some x := ⟨s[i]'(by omega), by simp⟩
          refine run_skip ?_
          refine run_seq ?_
          refine run_block ?_
          refine run_seq ?_
          refine run_seq ?_
          refine run_regS [0, 4, 5, 39] (by decide) (fun F hF => ?_)
          simp only [go_sem, reduceIte, reduceCtorEq, Nat.reduceLT, Nat.reduceLeDiff, Nat.reduceEqDiff, Nat.reduceAdd, Nat.reduceSub, Nat.reduceMul, Int.reduceEq, Int.reduceLT, Int.reduceLE, Int.reduceToNat, hx, Int.toNat_natCast, Int.natCast_nonneg]
          all_goals (try (refine aB_split' (fun hg0 => ?_) (fun hg0 => ?_) <;> simp only [go_sem, reduceIte, reduceCtorEq, Nat.reduceLT, Nat.reduceLeDiff, Nat.reduceEqDiff, Nat.reduceAdd, Nat.reduceSub, Nat.reduceMul, Int.reduceEq, Int.reduceLT, Int.reduceLE, Int.reduceToNat, hx, Int.toNat_natCast, Int.natCast_nonneg, hg0]))
          all_goals (refine hF _ ?_; clear hF F; simp only [go_sem, reduceIte, reduceCtorEq, Nat.reduceLT, Nat.reduceLeDiff, Nat.reduceEqDiff, Nat.reduceAdd, Nat.reduceSub, Nat.reduceMul, Int.reduceEq, Int.reduceLT, Int.reduceLE, Int.reduceToNat, hx, Int.toNat_natCast, Int.natCast_nonneg])
          ·
            refine run_condA (by simp only [evL, evC, tg, reduceIte, Nat.reduceEqDiff]; rfl) (fun h39 => ?_) (fun h39 => ?_)
            · try simp only [decide_eq_true_eq, decide_eq_false_iff_not] at h39
              first
              | exact absurd h39 (by decide)
              | (
                refine run_seq ?_
                refine run_regS [2, 3] (by decide) (fun F hF => ?_)
                simp only [go_sem, reduceIte, reduceCtorEq, Nat.reduceLT, Nat.reduceLeDiff, Nat.reduceEqDiff, Nat.reduceAdd, Nat.reduceSub, Nat.reduceMul, Int.reduceEq, Int.reduceLT, Int.reduceLE, Int.reduceToNat]
                refine hF _ ?_; clear hF F
                simp only [go_sem, reduceIte, reduceCtorEq, Nat.reduceLT, Nat.reduceLeDiff, Nat.reduceEqDiff, Nat.reduceAdd, Nat.reduceSub, Nat.reduceMul, Int.reduceEq, Int.reduceLT, Int.reduceLE, Int.reduceToNat]
                refine run_ret ?_
                refine fin_ofF (.inr rfl) [] rfl ?_ (by first | rfl | rfl | simp only [AV.clo, cloL, encV_clo, Bool.and_true, iA, bA])
                try simp only [go_sem, reduceIte, reduceCtorEq, Nat.reduceLT, Nat.reduceLeDiff, Nat.reduceEqDiff, Nat.reduceAdd, Nat.reduceSub, Nat.reduceMul, Int.reduceEq, Int.reduceLT, Int.reduceLE, Int.reduceToNat, AS.den, resV_one, resV_two, resV_three, clA_nil]
                try simp only [decide_eq_true_eq, decide_eq_false_iff_not] at *
                first
                | exact Le.of_eq (idxA_bad (idxOk_short (by omega)))
                | exact Le.of_eq (idxA_bad (idxOk_long (by omega)))
                | exact Le.of_eq (idxA_bad (idxOk_zero (by omega) (by omega)))
                | exact Le.of_eq (idxA_bad (idxOk_dig hx (dig_lo (by omega))))
                | exact Le.of_eq (idxA_bad (idxOk_dig hx (dig_hi (by omega))))
                | (have ht : s.take i = s := List.take_of_length_le (by omega)
                   rw [ht] at hi
                   exact Le.of_eq (idxA_good (idxOk_good (by omega) (by omega) (by omega) hi.2) (by rw [ht])))
                )
            · try simp only [decide_eq_true_eq, decide_eq_false_iff_not] at h39
              first
              | exact absurd h39 (by decide)
              | (
                refine run_skip ?_
                refine run_regS [0, 4, 5] (by decide) (fun F hF => ?_)
                simp only [go_sem, reduceIte, reduceCtorEq, Nat.reduceLT, Nat.reduceLeDiff, Nat.reduceEqDiff, Nat.reduceAdd, Nat.reduceSub, Nat.reduceMul, Int.reduceEq, Int.reduceLT, Int.reduceLE, Int.reduceToNat, hx, Int.toNat_natCast, Int.natCast_nonneg, iA]
                refine hF _ ?_; clear hF F
                simp only [go_sem, reduceIte, reduceCtorEq, Nat.reduceLT, Nat.reduceLeDiff, Nat.reduceEqDiff, Nat.reduceAdd, Nat.reduceSub, Nat.reduceMul, Int.reduceEq, Int.reduceLT, Int.reduceLE, Int.reduceToNat, hx, Int.toNat_natCast, Int.natCast_nonneg, iA]
                refine run_blk ?_
                refine run_regS [0, 4, 5] (by decide) (fun F hF => ?_)
                simp only [go_sem, reduceIte, reduceCtorEq, Nat.reduceLT, Nat.reduceLeDiff, Nat.reduceEqDiff, Nat.reduceAdd, Nat.reduceSub, Nat.reduceMul, Int.reduceEq, Int.reduceLT, Int.reduceLE, Int.reduceToNat, iA]
                refine hF _ ?_; clear hF F
                simp only [go_sem, reduceIte, reduceCtorEq, Nat.reduceLT, Nat.reduceLeDiff, Nat.reduceEqDiff, Nat.reduceAdd, Nat.reduceSub, Nat.reduceMul, Int.reduceEq, Int.reduceLT, Int.reduceLE, Int.reduceToNat, iA]
                refine run_chk ?_
                try simp only [decide_eq_true_eq, decide_eq_false_iff_not] at *
                exact ⟨i + 1, ⟨by omega, all_take hx hi.2 (dig_in (by omega) (by omega))⟩, by omega, Sub.of_eq (by rw [num_step hx (by omega) hi.2 (by omega) (by omega), IntWalk.i64_in _ (by omega)]; rfl)⟩
                )
          ·
            refine run_condA (by simp only [evL, evC, tg, reduceIte, Nat.reduceEqDiff]; rfl) (fun h39 => ?_) (fun h39 => ?_)
            · try simp only [decide_eq_true_eq, decide_eq_false_iff_not] at h39
              first
              | exact absurd h39 (by decide)
              | (
                refine run_seq ?_
                refine run_regS [2, 3] (by decide) (fun F hF => ?_)
                simp only [go_sem, reduceIte, reduceCtorEq, Nat.reduceLT, Nat.reduceLeDiff, Nat.reduceEqDiff, Nat.reduceAdd, Nat.reduceSub, Nat.reduceMul, Int.reduceEq, Int.reduceLT, Int.reduceLE, Int.reduceToNat]
                refine hF _ ?_; clear hF F
                simp only [go_sem, reduceIte, reduceCtorEq, Nat.reduceLT, Nat.reduceLeDiff, Nat.reduceEqDiff, Nat.reduceAdd, Nat.reduceSub, Nat.reduceMul, Int.reduceEq, Int.reduceLT, Int.reduceLE, Int.reduceToNat]
                refine run_ret ?_
                refine fin_ofF (.inr rfl) [] rfl ?_ (by first | rfl | rfl | simp only [AV.clo, cloL, encV_clo, Bool.and_true, iA, bA])
                try simp only [go_sem, reduceIte, reduceCtorEq, Nat.reduceLT, Nat.reduceLeDiff, Nat.reduceEqDiff, Nat.reduceAdd, Nat.reduceSub, Nat.reduceMul, Int.reduceEq, Int.reduceLT, Int.reduceLE, Int.reduceToNat, AS.den, resV_one, resV_two, resV_three, clA_nil]
                try simp only [decide_eq_true_eq, decide_eq_false_iff_not] at *
                first
                | exact Le.of_eq (idxA_bad (idxOk_short (by omega)))
                | exact Le.of_eq (idxA_bad (idxOk_long (by omega)))
                | exact Le.of_eq (idxA_bad (idxOk_zero (by omega) (by omega)))
                | exact Le.of_eq (idxA_bad (idxOk_dig hx (dig_lo (by omega))))
                | exact Le.of_eq (idxA_bad (idxOk_dig hx (dig_hi (by omega))))
                | (have ht : s.take i = s := List.take_of_length_le (by omega)
                   rw [ht] at hi
                   exact Le.of_eq (idxA_good (idxOk_good (by omega) (by omega) (by omega) hi.2) (by rw [ht])))
                )
            · try simp only [decide_eq_true_eq, decide_eq_false_iff_not] at h39
              first
              | exact absurd h39 (by decide)
              | (
                refine run_skip ?_
                refine run_regS [0, 4, 5] (by decide) (fun F hF => ?_)
                simp only [go_sem, reduceIte, reduceCtorEq, Nat.reduceLT, Nat.reduceLeDiff, Nat.reduceEqDiff, Nat.reduceAdd, Nat.reduceSub, Nat.reduceMul, Int.reduceEq, Int.reduceLT, Int.reduceLE, Int.reduceToNat, hx, Int.toNat_natCast, Int.natCast_nonneg, iA]
                refine hF _ ?_; clear hF F
                simp only [go_sem, reduceIte, reduceCtorEq, Nat.reduceLT, Nat.reduceLeDiff, Nat.reduceEqDiff, Nat.reduceAdd, Nat.reduceSub, Nat.reduceMul, Int.reduceEq, Int.reduceLT, Int.reduceLE, Int.reduceToNat, hx, Int.toNat_natCast, Int.natCast_nonneg, iA]
                refine run_blk ?_
                refine run_regS [0, 4, 5] (by decide) (fun F hF => ?_)
                simp only [go_sem, reduceIte, reduceCtorEq, Nat.reduceLT, Nat.reduceLeDiff, Nat.reduceEqDiff, Nat.reduceAdd, Nat.reduceSub, Nat.reduceMul, Int.reduceEq, Int.reduceLT, Int.reduceLE, Int.reduceToNat, iA]
                refine hF _ ?_; clear hF F
                simp only [go_sem, reduceIte, reduceCtorEq, Nat.reduceLT, Nat.reduceLeDiff, Nat.reduceEqDiff, Nat.reduceAdd, Nat.reduceSub, Nat.reduceMul, Int.reduceEq, Int.reduceLT, Int.reduceLE, Int.reduceToNat, iA]
                refine run_chk ?_
                try simp only [decide_eq_true_eq, decide_eq_false_iff_not] at *
                exact ⟨i + 1, ⟨by omega, all_take hx hi.2 (dig_in (by omega) (by omega))⟩, by omega, Sub.of_eq (by rw [num_step hx (by omega) hi.2 (by omega) (by omega), IntWalk.i64_in _ (by omega)]; rfl)⟩
                )
        · try simp only [decide_eq_true_eq, decide_eq_false_iff_not] at h27
          refine run_exit (k' := _) rfl ?_
          refine run_seq ?_
          refine run_regS [2, 3] (by decide) (fun F hF => ?_)
          simp only [go_sem, reduceIte, reduceCtorEq, Nat.reduceLT, Nat.reduceLeDiff, Nat.reduceEqDiff, Nat.reduceAdd, Nat.reduceSub, Nat.reduceMul, Int.reduceEq, Int.reduceLT, Int.reduceLE, Int.reduceToNat, iA]
          refine hF _ ?_; clear hF F
          simp only [go_sem, reduceIte, reduceCtorEq, Nat.reduceLT, Nat.reduceLeDiff, Nat.reduceEqDiff, Nat.reduceAdd, Nat.reduceSub, Nat.reduceMul, Int.reduceEq, Int.reduceLT, Int.reduceLE, Int.reduceToNat, iA]
          refine run_ret ?_
          refine fin_ofF (.inr rfl) [] rfl ?_ (by first | rfl | rfl | simp only [AV.clo, cloL, encV_clo, Bool.and_true, iA, bA])
          try simp only [go_sem, reduceIte, reduceCtorEq, Nat.reduceLT, Nat.reduceLeDiff, Nat.reduceEqDiff, Nat.reduceAdd, Nat.reduceSub, Nat.reduceMul, Int.reduceEq, Int.reduceLT, Int.reduceLE, Int.reduceToNat, AS.den, resV_one, resV_two, resV_three, clA_nil]
          try simp only [decide_eq_true_eq, decide_eq_false_iff_not] at *
          first
          | exact Le.of_eq (idxA_bad (idxOk_short (by omega)))
          | exact Le.of_eq (idxA_bad (idxOk_long (by omega)))
          | exact Le.of_eq (idxA_bad (idxOk_zero (by omega) (by omega)))
          | exact Le.of_eq (idxA_bad (idxOk_dig hx (dig_lo (by omega))))
          | exact Le.of_eq (idxA_bad (idxOk_dig hx (dig_hi (by omega))))
          | (have ht : s.take i = s := List.take_of_length_le (by omega)
             rw [ht] at hi
             exact Le.of_eq (idxA_good (idxOk_good (by omega) (by omega) (by omega) hi.2) (by rw [ht])))
        )
  ·
    refine run_condA (by simp only [evL, evC, tg, reduceIte, Nat.reduceEqDiff]; rfl) (fun h23 => ?_) (fun h23 => ?_)
    · try simp only [decide_eq_true_eq, decide_eq_false_iff_not] at h23
      first
      | exact absurd h23 (by decide)
      | (
        refine run_seq ?_
        refine run_regS [2, 3] (by decide) (fun F hF => ?_)
        simp only [go_sem, reduceIte, reduceCtorEq, Nat.reduceLT, Nat.reduceLeDiff, Nat.reduceEqDiff, Nat.reduceAdd, Nat.reduceSub, Nat.reduceMul, Int.reduceEq, Int.reduceLT, Int.reduceLE, Int.reduceToNat]
        refine hF _ ?_; clear hF F
        simp only [go_sem, reduceIte, reduceCtorEq, Nat.reduceLT, Nat.reduceLeDiff, Nat.reduceEqDiff, Nat.reduceAdd, Nat.reduceSub, Nat.reduceMul, Int.reduceEq, Int.reduceLT, Int.reduceLE, Int.reduceToNat]
        refine run_ret ?_
        refine fin_ofF (.inr rfl) [] rfl ?_ (by first | rfl | rfl | simp only [AV.clo, cloL, encV_clo, Bool.and_true, iA, bA])
        try simp only [go_sem, reduceIte, reduceCtorEq, Nat.reduceLT, Nat.reduceLeDiff, Nat.reduceEqDiff, Nat.reduceAdd, Nat.reduceSub, Nat.reduceMul, Int.reduceEq, Int.reduceLT, Int.reduceLE, Int.reduceToNat, AS.den, resV_one, resV_two, resV_three, clA_nil]
        try simp only [decide_eq_true_eq, decide_eq_false_iff_not] at *
        first
        | exact Le.of_eq (idxA_bad (idxOk_short (by omega)))
        | exact Le.of_eq (idxA_bad (idxOk_long (by omega)))
        | exact Le.of_eq (idxA_bad (idxOk_zero (by omega) (by omega)))
        | exact Le.of_eq (idxA_bad (idxOk_dig hx (dig_lo (by omega))))
        | exact Le.of_eq (idxA_bad (idxOk_dig hx (dig_hi (by omega))))
        | (have ht : s.take i = s := List.take_of_length_le (by omega)
           rw [ht] at hi
           exact Le.of_eq (idxA_good (idxOk_good (by omega) (by omega) (by omega) hi.2) (by rw [ht])))
        )
    · try simp only [decide_eq_true_eq, decide_eq_false_iff_not] at h23
      first
      | exact absurd h23 (by decide)
      | (
        refine run_skip ?_
        refine run_seq ?_
        refine run_regS [0, 4] (by decide) (fun F hF => ?_)
        simp only [go_sem, reduceIte, reduceCtorEq, Nat.reduceLT, Nat.reduceLeDiff, Nat.reduceEqDiff, Nat.reduceAdd, Nat.reduceSub, Nat.reduceMul, Int.reduceEq, Int.reduceLT, Int.reduceLE, Int.reduceToNat]
        refine hF _ ?_; clear hF F
        simp only [go_sem, reduceIte, reduceCtorEq, Nat.reduceLT, Nat.reduceLeDiff, Nat.reduceEqDiff, Nat.reduceAdd, Nat.reduceSub, Nat.reduceMul, Int.reduceEq, Int.reduceLT, Int.reduceLE, Int.reduceToNat]
        refine run_seq ?_
        refine run_seq ?_
        refine run_regS [0, 4, 5] (by decide) (fun F hF => ?_)
        simp only [go_sem, reduceIte, reduceCtorEq, Nat.reduceLT, Nat.reduceLeDiff, Nat.reduceEqDiff, Nat.reduceAdd, Nat.reduceSub, Nat.reduceMul, Int.reduceEq, Int.reduceLT, Int.reduceLE, Int.reduceToNat]
        refine hF _ ?_; clear hF F
        simp only [go_sem, reduceIte, reduceCtorEq, Nat.reduceLT, Nat.reduceLeDiff, Nat.reduceEqDiff, Nat.reduceAdd, Nat.reduceSub, Nat.reduceMul, Int.reduceEq, Int.reduceLT, Int.reduceLE, Int.reduceToNat]
        refine run_block ?_
        refine run_loopA (fun i : Nat => ⟨[(0, .str s), (4, iA (numL (s.take i) 0)), (5, iA i)], []⟩) (fun i => i ≤ s.length ∧ (s.take i).all dig = true) (fun i => s.length - i) 0 (Sub.of_eq rfl) ⟨by omega, by simp⟩ (fun i hi => ?_)
        refine run_seq ?_
        refine run_seq ?_
        refine run_regS [0, 4, 5, 27] (by decide) (fun F hF => ?_)
        simp only [go_sem, reduceIte, reduceCtorEq, Nat.reduceLT, Nat.reduceLeDiff, Nat.reduceEqDiff, Nat.reduceAdd, Nat.reduceSub, Nat.reduceMul, Int.reduceEq, Int.reduceLT, Int.reduceLE, Int.reduceToNat, iA]
        refine hF _ ?_; clear hF F
        simp only [go_sem, reduceIte, reduceCtorEq, Nat.reduceLT, Nat.reduceLeDiff, Nat.reduceEqDiff, Nat.reduceAdd, Nat.reduceSub, Nat.reduceMul, Int.reduceEq, Int.reduceLT, Int.reduceLE, Int.reduceToNat, iA]
        refine run_condA (by simp only [evL, evC, tg, reduceIte, Nat.reduceEqDiff]; rfl) (fun h27 => ?_) (fun h27 => ?_)
        · try simp only [decide_eq_true_eq, decide_eq_false_iff_not] at h27
          obtain ⟨x, hx⟩ : ∃ x, s[i]? = some x := ⟨s[i]'(by omega), by simp⟩
          refine run_skip ?_
          refine run_seq ?_
          refine run_block ?_
          refine run_seq ?_
          refine run_seq ?_
          refine run_regS [0, 4, 5, 39] (by decide) (fun F hF => ?_)
          simp only [go_sem, reduceIte, reduceCtorEq, Nat.reduceLT, Nat.reduceLeDiff, Nat.reduceEqDiff, Nat.reduceAdd, Nat.reduceSub, Nat.reduceMul, Int.reduceEq, Int.reduceLT, Int.reduceLE, Int.reduceToNat, hx, Int.toNat_natCast, Int.natCast_nonneg]
          all_goals (try (refine aB_split' (fun hg0 => ?_) (fun hg0 => ?_) <;> simp only [go_sem, reduceIte, reduceCtorEq, Nat.reduceLT, Nat.reduceLeDiff, Nat.reduceEqDiff, Nat.reduceAdd, Nat.reduceSub, Nat.reduceMul, Int.reduceEq, Int.reduceLT, Int.reduceLE, Int.reduceToNat, hx, Int.toNat_natCast, Int.natCast_nonneg, hg0]))
          all_goals (refine hF _ ?_; clear hF F; simp only [go_sem, reduceIte, reduceCtorEq, Nat.reduceLT, Nat.reduceLeDiff, Nat.reduceEqDiff, Nat.reduceAdd, Nat.reduceSub, Nat.reduceMul, Int.reduceEq, Int.reduceLT, Int.reduceLE, Int.reduceToNat, hx, Int.toNat_natCast, Int.natCast_nonneg])
          ·
            refine run_condA (by simp only [evL, evC, tg, reduceIte, Nat.reduceEqDiff]; rfl) (fun h39 => ?_) (fun h39 => ?_)
            · try simp only [decide_eq_true_eq, decide_eq_false_iff_not] at h39
              first
              | exact absurd h39 (by decide)
              | (
                refine run_seq ?_
                refine run_regS [2, 3] (by decide) (fun F hF => ?_)
                simp only [go_sem, reduceIte, reduceCtorEq, Nat.reduceLT, Nat.reduceLeDiff, Nat.reduceEqDiff, Nat.reduceAdd, Nat.reduceSub, Nat.reduceMul, Int.reduceEq, Int.reduceLT, Int.reduceLE, Int.reduceToNat]
                refine hF _ ?_; clear hF F
                simp only [go_sem, reduceIte, reduceCtorEq, Nat.reduceLT, Nat.reduceLeDiff, Nat.reduceEqDiff, Nat.reduceAdd, Nat.reduceSub, Nat.reduceMul, Int.reduceEq, Int.reduceLT, Int.reduceLE, Int.reduceToNat]
                refine run_ret ?_
                refine fin_ofF (.inr rfl) [] rfl ?_ (by first | rfl | rfl | simp only [AV.clo, cloL, encV_clo, Bool.and_true, iA, bA])
                try simp only [go_sem, reduceIte, reduceCtorEq, Nat.reduceLT, Nat.reduceLeDiff, Nat.reduceEqDiff, Nat.reduceAdd, Nat.reduceSub, Nat.reduceMul, Int.reduceEq, Int.reduceLT, Int.reduceLE, Int.reduceToNat, AS.den, resV_one, resV_two, resV_three, clA_nil]
                try simp only [decide_eq_true_eq, decide_eq_false_iff_not] at *
                first
                | exact Le.of_eq (idxA_bad (idxOk_short (by omega)))
                | exact Le.of_eq (idxA_bad (idxOk_long (by omega)))
                | exact Le.of_eq (idxA_bad (idxOk_zero (by omega) (by omega)))
                | exact Le.of_eq (idxA_bad (idxOk_dig hx (dig_lo (by omega))))
                | exact Le.of_eq (idxA_bad (idxOk_dig hx (dig_hi (by omega))))
                | (have ht : s.take i = s := List.take_of_length_le (by omega)
                   rw [ht] at hi
                   exact Le.of_eq (idxA_good (idxOk_good (by omega) (by omega) (by omega) hi.2) (by rw [ht])))
                )
            · try simp only [decide_eq_true_eq, decide_eq_false_iff_not] at h39
              first
              | exact absurd h39 (by decide)
              | (
                refine run_skip ?_
                refine run_regS [0, 4, 5] (by decide) (fun F hF => ?_)
                simp only [go_sem, reduceIte, reduceCtorEq, Nat.reduceLT, Nat.reduceLeDiff, Nat.reduceEqDiff, Nat.reduceAdd, Nat.reduceSub, Nat.reduceMul, Int.reduceEq, Int.reduceLT, Int.reduceLE, Int.reduceToNat, hx, Int.toNat_natCast, Int.natCast_nonneg, iA]
                refine hF _ ?_; clear hF F
                simp only [go_sem, reduceIte, reduceCtorEq, Nat.reduceLT, Nat.reduceLeDiff, Nat.reduceEqDiff, Nat.reduceAdd, Nat.reduceSub, Nat.reduceMul, Int.reduceEq, Int.reduceLT, Int.reduceLE, Int.reduceToNat, hx, Int.toNat_natCast, Int.natCast_nonneg, iA]
                refine run_blk ?_
                refine run_regS [0, 4, 5] (by decide) (fun F hF => ?_)
                simp only [go_sem, reduceIte, reduceCtorEq, Nat.reduceLT, Nat.reduceLeDiff, Nat.reduceEqDiff, Nat.reduceAdd, Nat.reduceSub, Nat.reduceMul, Int.reduceEq, Int.reduceLT, Int.reduceLE, Int.reduceToNat, iA]
                refine hF _ ?_; clear hF F
                simp only [go_sem, reduceIte, reduceCtorEq, Nat.reduceLT, Nat.reduceLeDiff, Nat.reduceEqDiff, Nat.reduceAdd, Nat.reduceSub, Nat.reduceMul, Int.reduceEq, Int.reduceLT, Int.reduceLE, Int.reduceToNat, iA]
                refine run_chk ?_
                try simp only [decide_eq_true_eq, decide_eq_false_iff_not] at *
                exact ⟨i + 1, ⟨by omega, all_take hx hi.2 (dig_in (by omega) (by omega))⟩, by omega, Sub.of_eq (by rw [num_step hx (by omega) hi.2 (by omega) (by omega), IntWalk.i64_in _ (by omega)]; rfl)⟩
                )
          ·
            refine run_condA (by simp only [evL, evC, tg, reduceIte, Nat.reduceEqDiff]; rfl) (fun h39 => ?_) (fun h39 => ?_)
            · try simp only [decide_eq_true_eq, decide_eq_false_iff_not] at h39
              first
              | exact absurd h39 (by decide)
              | (
                refine run_seq ?_
                refine run_regS [2, 3] (by decide) (fun F hF => ?_)
                simp only [go_sem, reduceIte, reduceCtorEq, Nat.reduceLT, Nat.reduceLeDiff, Nat.reduceEqDiff, Nat.reduceAdd, Nat.reduceSub, Nat.reduceMul, Int.reduceEq, Int.reduceLT, Int.reduceLE, Int.reduceToNat]
                refine hF _ ?_; clear hF F
                simp only [go_sem, reduceIte, reduceCtorEq, Nat.reduceLT, Nat.reduceLeDiff, Nat.reduceEqDiff, Nat.reduceAdd, Nat.reduceSub, Nat.reduceMul, Int.reduceEq, Int.reduceLT, Int.reduceLE, Int.reduceToNat]
                refine run_ret ?_
                refine fin_ofF (.inr rfl) [] rfl ?_ (by first | rfl | rfl | simp only [AV.clo, cloL, encV_clo, Bool.and_true, iA, bA])
                try simp only [go_sem, reduceIte, reduceCtorEq, Nat.reduceLT, Nat.reduceLeDiff, Nat.reduceEqDiff, Nat.reduceAdd, Nat.reduceSub, Nat.reduceMul, Int.reduceEq, Int.reduceLT, Int.reduceLE, Int.reduceToNat, AS.den, resV_one, resV_two, resV_three, clA_nil]
                try simp only [decide_eq_true_eq, decide_eq_false_iff_not] at *
                first
                | exact Le.of_eq (idxA_bad (idxOk_short (by omega)))
                | exact Le.of_eq (idxA_bad (idxOk_long (by omega)))
                | exact Le.of_eq (idxA_bad (idxOk_zero (by omega) (by omega)))
                | exact Le.of_eq (idxA_bad (idxOk_dig hx (dig_lo (by omega))))
                | exact Le.of_eq (idxA_bad (idxOk_dig hx (dig_hi (by omega))))
                | (have ht : s.take i = s := List.take_of_length_le (by omega)
                   rw [ht] at hi
                   exact Le.of_eq (idxA_good (idxOk_good (by omega) (by omega) (by omega) hi.2) (by rw [ht])))
                )
            · try simp only [decide_eq_true_eq, decide_eq_false_iff_not] at h39
              first
              | exact absurd h39 (by decide)
              | (
                refine run_skip ?_
                refine run_regS [0, 4, 5] (by decide) (fun F hF => ?_)
                simp only [go_sem, reduceIte, reduceCtorEq, Nat.reduceLT, Nat.reduceLeDiff, Nat.reduceEqDiff, Nat.reduceAdd, Nat.reduceSub, Nat.reduceMul, Int.reduceEq, Int.reduceLT, Int.reduceLE, Int.reduceToNat, hx, Int.toNat_natCast, Int.natCast_nonneg, iA]
                refine hF _ ?_; clear hF F
                simp only [go_sem, reduceIte, reduceCtorEq, Nat.reduceLT, Nat.reduceLeDiff, Nat.reduceEqDiff, Nat.reduceAdd, Nat.reduceSub, Nat.reduceMul, Int.reduceEq, Int.reduceLT, Int.reduceLE, Int.reduceToNat, hx, Int.toNat_natCast, Int.natCast_nonneg, iA]
                refine run_blk ?_
                refine run_regS [0, 4, 5] (by decide) (fun F hF => ?_)
                simp only [go_sem, reduceIte, reduceCtorEq, Nat.reduceLT, Nat.reduceLeDiff, Nat.reduceEqDiff, Nat.reduceAdd, Nat.reduceSub, Nat.reduceMul, Int.reduceEq, Int.reduceLT, Int.reduceLE, Int.reduceToNat, iA]
                refine hF _ ?_; clear hF F
                simp only [go_sem, reduceIte, reduceCtorEq, Nat.reduceLT, Nat.reduceLeDiff, Nat.reduceEqDiff, Nat.reduceAdd, Nat.reduceSub, Nat.reduceMul, Int.reduceEq, Int.reduceLT, Int.reduceLE, Int.reduceToNat, iA]
                refine run_chk ?_
                try simp only [decide_eq_true_eq, decide_eq_false_iff_not] at *
                exact ⟨i + 1, ⟨by omega, all_take hx hi.2 (dig_in (by omega) (by omega))⟩, by omega, Sub.of_eq (by rw [num_step hx (by omega) hi.2 (by omega) (by omega), IntWalk.i64_in _ (by omega)]; rfl)⟩
                )
        · try simp only [decide_eq_true_eq, decide_eq_false_iff_not] at h27
          refine run_exit (k' := _) rfl ?_
          refine run_seq ?_
          refine run_regS [2, 3] (by decide) (fun F hF => ?_)
          simp only [go_sem, reduceIte, reduceCtorEq, Nat.reduceLT, Nat.reduceLeDiff, Nat.reduceEqDiff, Nat.reduceAdd, Nat.reduceSub, Nat.reduceMul, Int.reduceEq, Int.reduceLT, Int.reduceLE, Int.reduceToNat, iA]
          refine hF _ ?_; clear hF F
          simp only [go_sem, reduceIte, reduceCtorEq, Nat.reduceLT, Nat.reduceLeDiff, Nat.reduceEqDiff, Nat.reduceAdd, Nat.reduceSub, Nat.reduceMul, Int.reduceEq, Int.reduceLT, Int.reduceLE, Int.reduceToNat, iA]
          refine run_ret ?_
          refine fin_ofF (.inr rfl) [] rfl ?_ (by first | rfl | rfl | simp only [AV.clo, cloL, encV_clo, Bool.and_true, iA, bA])
          try simp only [go_sem, reduceIte, reduceCtorEq, Nat.reduceLT, Nat.reduceLeDiff, Nat.reduceEqDiff, Nat.reduceAdd, Nat.reduceSub, Nat.reduceMul, Int.reduceEq, Int.reduceLT, Int.reduceLE, Int.reduceToNat, AS.den, resV_one, resV_two, resV_three, clA_nil]
          try simp only [decide_eq_true_eq, decide_eq_false_iff_not] at *
          first
          | exact Le.of_eq (idxA_bad (idxOk_short (by omega)))
          | exact Le.of_eq (idxA_bad (idxOk_long (by omega)))
          | exact Le.of_eq (idxA_bad (idxOk_zero (by omega) (by omega)))
          | exact Le.of_eq (idxA_bad (idxOk_dig hx (dig_lo (by omega))))
          | exact Le.of_eq (idxA_bad (idxOk_dig hx (dig_hi (by omega))))
          | (have ht : s.take i = s := List.take_of_length_le (by omega)
             rw [ht] at hi
             exact Le.of_eq (idxA_good (idxOk_good (by omega) (by omega) (by omega) hi.2) (by rw [ht])))
        )
  ·
    refine run_condA (by simp only [evL, evC, tg, reduceIte, Nat.reduceEqDiff]; rfl) (fun h23 => ?_) (fun h23 => ?_)
    · try simp only [decide_eq_true_eq, decide_eq_false_iff_not] at h23
      first
      | exact absurd h23 (by decide)
      | (
        refine run_seq ?_
        refine run_regS [2, 3] (by decide) (fun F hF => ?_)
        simp only [go_sem, reduceIte, reduceCtorEq, Nat.reduceLT, Nat.reduceLeDiff, Nat.reduceEqDiff, Nat.reduceAdd, Nat.reduceSub, Nat.reduceMul, Int.reduceEq, Int.reduceLT, Int.reduceLE, Int.reduceToNat]
        refine hF _ ?_; clear hF F
        simp only [go_sem, reduceIte, reduceCtorEq, Nat.reduceLT, Nat.reduceLeDiff, Nat.reduceEqDiff, Nat.reduceAdd, Nat.reduceSub, Nat.reduceMul, Int.reduceEq, Int.reduceLT, Int.reduceLE, Int.reduceToNat]
        refine run_ret ?_
        refine fin_ofF (.inr rfl) [] rfl ?_ (by first | rfl | rfl | simp only [AV.clo, cloL, encV_clo, Bool.and_true, iA, bA])
        try simp only [go_sem, reduceIte, reduceCtorEq, Nat.reduceLT, Nat.reduceLeDiff, Nat.reduceEqDiff, Nat.reduceAdd, Nat.reduceSub, Nat.reduceMul, Int.reduceEq, Int.reduceLT, Int.reduceLE, Int.reduceToNat, AS.den, resV_one, resV_two, resV_three, clA_nil]
        try simp only [decide_eq_true_eq, decide_eq_false_iff_not] at *
        first
        | exact Le.of_eq (idxA_bad (idxOk_short (by omega)))
        | exact Le.of_eq (idxA_bad (idxOk_long (by omega)))
        | exact Le.of_eq (idxA_bad (idxOk_zero (by omega) (by omega)))
        | exact Le.of_eq (idxA_bad (idxOk_dig hx (dig_lo (by omega))))
        | exact Le.of_eq (idxA_bad (idxOk_dig hx (dig_hi (by omega))))
        | (have ht : s.take i = s := List.take_of_length_le (by omega)
           rw [ht] at hi
           exact Le.of_eq (idxA_good (idxOk_good (by omega) (by omega) (by omega) hi.2) (by rw [ht])))
        )
    · try simp only [decide_eq_true_eq, decide_eq_false_iff_not] at h23
      first
      | exact absurd h23 (by decide)
      | (
        refine run_skip ?_
        refine run_seq ?_
        refine run_regS [0, 4] (by decide) (fun F hF => ?_)
        simp only [go_sem, reduceIte, reduceCtorEq, Nat.reduceLT, Nat.reduceLeDiff, Nat.reduceEqDiff, Nat.reduceAdd, Nat.reduceSub, Nat.reduceMul, Int.reduceEq, Int.reduceLT, Int.reduceLE, Int.reduceToNat]
        refine hF _ ?_; clear hF F
        simp only [go_sem, reduceIte, reduceCtorEq, Nat.reduceLT, Nat.reduceLeDiff, Nat.reduceEqDiff, Nat.reduceAdd, Nat.reduceSub, Nat.reduceMul, Int.reduceEq, Int.reduceLT, Int.reduceLE, Int.reduceToNat]
        refine run_seq ?_
        refine run_seq ?_
        refine run_regS [0, 4, 5] (by decide) (fun F hF => ?_)
        simp only [go_sem, reduceIte, reduceCtorEq, Nat.reduceLT, Nat.reduceLeDiff, Nat.reduceEqDiff, Nat.reduceAdd, Nat.reduceSub, Nat.reduceMul, Int.reduceEq, Int.reduceLT, Int.reduceLE, Int.reduceToNat]
        refine hF _ ?_; clear hF F
        simp only [go_sem, reduceIte, reduceCtorEq, Nat.reduceLT, Nat.reduceLeDiff, Nat.reduceEqDiff, Nat.reduceAdd, Nat.reduceSub, Nat.reduceMul, Int.reduceEq, Int.reduceLT, Int.reduceLE, Int.reduceToNat]
        refine run_block ?_
        refine run_loopA (fun i : Nat => ⟨[(0, .str s), (4, iA (numL (s.take i) 0)), (5, iA i)], []⟩) (fun i => i ≤ s.length ∧ (s.take i).all dig = true) (fun i => s.length - i) 0 (Sub.of_eq rfl) ⟨by omega, by simp⟩ (fun i hi => ?_)
        refine run_seq ?_
        refine run_seq ?_
        refine run_regS [0, 4, 5, 27] (by decide) (fun F hF => ?_)
        simp only [go_sem, reduceIte, reduceCtorEq, Nat.reduceLT, Nat.reduceLeDiff, Nat.reduceEqDiff, Nat.reduceAdd, Nat.reduceSub, Nat.reduceMul, Int.reduceEq, Int.reduceLT, Int.reduceLE, Int.reduceToNat, iA]
        refine hF _ ?_; clear hF F
        simp only [go_sem, reduceIte, reduceCtorEq, Nat.reduceLT, Nat.reduceLeDiff, Nat.reduceEqDiff, Nat.reduceAdd, Nat.reduceSub, Nat.reduceMul, Int.reduceEq, Int.reduceLT, Int.reduceLE, Int.reduceToNat, iA]
        refine run_condA (by simp only [evL, evC, tg, reduceIte, Nat.reduceEqDiff]; rfl) (fun h27 => ?_) (fun h27 => ?_)
        · try simp only [decide_eq_true_eq, decide_eq_false_iff_not] at h27
          obtain ⟨x, hx⟩ : ∃ x, s[i]? = some x := ⟨s[i]'(by omega), by simp⟩
          refine run_skip ?_
          refine run_seq ?_
          refine run_block ?_
          refine run_seq ?_
          refine run_seq ?_
          refine run_regS [0, 4, 5, 39] (by decide) (fun F hF => ?_)
          simp only [go_sem, reduceIte, reduceCtorEq, Nat.reduceLT, Nat.reduceLeDiff, Nat.reduceEqDiff, Nat.reduceAdd, Nat.reduceSub, Nat.reduceMul, Int.reduceEq, Int.reduceLT, Int.reduceLE, Int.reduceToNat, hx, Int.toNat_natCast, Int.natCast_nonneg]
          all_goals (try (refine aB_split' (fun hg0 => ?_) (fun hg0 => ?_) <;> simp only [go_sem, reduceIte, reduceCtorEq, Nat.reduceLT, Nat.reduceLeDiff, Nat.reduceEqDiff, Nat.reduceAdd, Nat.reduceSub, Nat.reduceMul, Int.reduceEq, Int.reduceLT, Int.reduceLE, Int.reduceToNat, hx, Int.toNat_natCast, Int.natCast_nonneg, hg0]))
          all_goals (refine hF _ ?_; clear hF F; simp only [go_sem, reduceIte, reduceCtorEq, Nat.reduceLT, Nat.reduceLeDiff, Nat.reduceEqDiff, Nat.reduceAdd, Nat.reduceSub, Nat.reduceMul, Int.reduceEq, Int.reduceLT, Int.reduceLE, Int.reduceToNat, hx, Int.toNat_natCast, Int.natCast_nonneg])
          ·
            refine run_condA (by simp only [evL, evC, tg, reduceIte, Nat.reduceEqDiff]; rfl) (fun h39 => ?_) (fun h39 => ?_)
            · try simp only [decide_eq_true_eq, decide_eq_false_iff_not] at h39
              first
              | exact absurd h39 (by decide)
              | (
                refine run_seq ?_
                refine run_regS [2, 3] (by decide) (fun F hF => ?_)
                simp only [go_sem, reduceIte, reduceCtorEq, Nat.reduceLT, Nat.reduceLeDiff, Nat.reduceEqDiff, Nat.reduceAdd, Nat.reduceSub, Nat.reduceMul, Int.reduceEq, Int.reduceLT, Int.reduceLE, Int.reduceToNat]
                refine hF _ ?_; clear hF F
                simp only [go_sem, reduceIte, reduceCtorEq, Nat.reduceLT, Nat.reduceLeDiff, Nat.reduceEqDiff, Nat.reduceAdd, Nat.reduceSub, Nat.reduceMul, Int.reduceEq, Int.reduceLT, Int.reduceLE, Int.reduceToNat]
                refine run_ret ?_
                refine fin_ofF (.inr rfl) [] rfl ?_ (by first | rfl | rfl | simp only [AV.clo, cloL, encV_clo, Bool.and_true, iA, bA])
                try simp only [go_sem, reduceIte, reduceCtorEq, Nat.reduceLT, Nat.reduceLeDiff, Nat.reduceEqDiff, Nat.reduceAdd, Nat.reduceSub, Nat.reduceMul, Int.reduceEq, Int.reduceLT, Int.reduceLE, Int.reduceToNat, AS.den, resV_one, resV_two, resV_three, clA_nil]
                try simp only [decide_eq_true_eq, decide_eq_false_iff_not] at *
                first
                | exact Le.of_eq (idxA_bad (idxOk_short (by omega)))
                | exact Le.of_eq (idxA_bad (idxOk_long (by omega)))
                | exact Le.of_eq (idxA_bad (idxOk_zero (by omega) (by omega)))
                | exact Le.of_eq (idxA_bad (idxOk_dig hx (dig_lo (by omega))))
                | exact Le.of_eq (idxA_bad (idxOk_dig hx (dig_hi (by omega))))
                | (have ht : s.take i = s := List.take_of_length_le (by omega)
                   rw [ht] at hi
                   exact Le.of_eq (idxA_good (idxOk_good (by omega) (by omega) (by omega) hi.2) (by rw [ht])))
                )
            · try simp only [decide_eq_true_eq, decide_eq_false_iff_not] at h39
              first
              | exact absurd h39 (by decide)
              | (
                refine run_skip ?_
                refine run_regS [0, 4, 5] (by decide) (fun F hF => ?_)
                simp only [go_sem, reduceIte, reduceCtorEq, Nat.reduceLT, Nat.reduceLeDiff, Nat.reduceEqDiff, Nat.reduceAdd, Nat.reduceSub, Nat.reduceMul, Int.reduceEq, Int.reduceLT, Int.reduceLE, Int.reduceToNat, hx, Int.toNat_natCast, Int.natCast_nonneg, iA]
                refine hF _ ?_; clear hF F
                simp only [go_sem, reduceIte, reduceCtorEq, Nat.reduceLT, Nat.reduceLeDiff, Nat.reduceEqDiff, Nat.reduceAdd, Nat.reduceSub, Nat.reduceMul, Int.reduceEq, Int.reduceLT, Int.reduceLE, Int.reduceToNat, hx, Int.toNat_natCast, Int.natCast_nonneg, iA]
                refine run_blk ?_
                refine run_regS [0, 4, 5] (by decide) (fun F hF => ?_)
                simp only [go_sem, reduceIte, reduceCtorEq, Nat.reduceLT, Nat.reduceLeDiff, Nat.reduceEqDiff, Nat.reduceAdd, Nat.reduceSub, Nat.reduceMul, Int.reduceEq, Int.reduceLT, Int.reduceLE, Int.reduceToNat, iA]
                refine hF _ ?_; clear hF F
                simp only [go_sem, reduceIte, reduceCtorEq, Nat.reduceLT, Nat.reduceLeDiff, Nat.reduceEqDiff, Nat.reduceAdd, Nat.reduceSub, Nat.reduceMul, Int.reduceEq, Int.reduceLT, Int.reduceLE, Int.reduceToNat, iA]
                refine run_chk ?_
                try simp only [decide_eq_true_eq, decide_eq_false_iff_not] at *
                exact ⟨i + 1, ⟨by omega, all_take hx hi.2 (dig_in (by omega) (by omega))⟩, by omega, Sub.of_eq (by rw [num_step hx (by omega) hi.2 (by omega) (by omega), IntWalk.i64_in _ (by omega)]; rfl)⟩
                )
          ·
            refine run_condA (by simp only [evL, evC, tg, reduceIte, Nat.reduceEqDiff]; rfl) (fun h39 => ?_) (fun h39 => ?_)
            · try simp only [decide_eq_true_eq, decide_eq_false_iff_not] at h39
              first
              | exact absurd h39 (by decide)
              | (
                refine run_seq ?_
                refine run_regS [2, 3] (by decide) (fun F hF => ?_)
                simp only [go_sem, reduceIte, reduceCtorEq, Nat.reduceLT, Nat.reduceLeDiff, Nat.reduceEqDiff, Nat.reduceAdd, Nat.reduceSub, Nat.reduceMul, Int.reduceEq, Int.reduceLT, Int.reduceLE, Int.reduceToNat]
                refine hF _ ?_; clear hF F
                simp only [go_sem, reduceIte, reduceCtorEq, Nat.reduceLT, Nat.reduceLeDiff, Nat.reduceEqDiff, Nat.reduceAdd, Nat.reduceSub, Nat.reduceMul, Int.reduceEq, Int.reduceLT, Int.reduceLE, Int.reduceToNat]
                refine run_ret ?_
                refine fin_ofF (.inr rfl) [] rfl ?_ (by first | rfl | rfl | simp only [AV.clo, cloL, encV_clo, Bool.and_true, iA, bA])
                try simp only [go_sem, reduceIte, reduceCtorEq, Nat.reduceLT, Nat.reduceLeDiff, Nat.reduceEqDiff, Nat.reduceAdd, Nat.reduceSub, Nat.reduceMul, Int.reduceEq, Int.reduceLT, Int.reduceLE, Int.reduceToNat, AS.den, resV_one, resV_two, resV_three, clA_nil]
                try simp only [decide_eq_true_eq, decide_eq_false_iff_not] at *
                first
                | exact Le.of_eq (idxA_bad (idxOk_short (by omega)))
                | exact Le.of_eq (idxA_bad (idxOk_long (by omega)))
                | exact Le.of_eq (idxA_bad (idxOk_zero (by omega) (by omega)))
                | exact Le.of_eq (idxA_bad (idxOk_dig hx (dig_lo (by omega))))
                | exact Le.of_eq (idxA_bad (idxOk_dig hx (dig_hi (by omega))))
                | (have ht : s.take i = s := List.take_of_length_le (by omega)
                   rw [ht] at hi
                   exact Le.of_eq (idxA_good (idxOk_good (by omega) (by omega) (by omega) hi.2) (by rw [ht])))
                )
            · try simp only [decide_eq_true_eq, decide_eq_false_iff_not] at h39
              first
              | exact absurd h39 (by decide)
              | (
                refine run_skip ?_
                refine run_regS [0, 4, 5] (by decide) (fun F hF => ?_)
                simp only [go_sem, reduceIte, reduceCtorEq, Nat.reduceLT, Nat.reduceLeDiff, Nat.reduceEqDiff, Nat.reduceAdd, Nat.reduceSub, Nat.reduceMul, Int.reduceEq, Int.reduceLT, Int.reduceLE, Int.reduceToNat, hx, Int.toNat_natCast, Int.natCast_nonneg, iA]
                refine hF _ ?_; clear hF F
                simp only [go_sem, reduceIte, reduceCtorEq, Nat.reduceLT, Nat.reduceLeDiff, Nat.reduceEqDiff, Nat.reduceAdd, Nat.reduceSub, Nat.reduceMul, Int.reduceEq, Int.reduceLT, Int.reduceLE, Int.reduceToNat, hx, Int.toNat_natCast, Int.natCast_nonneg, iA]
                refine run_blk ?_
                refine run_regS [0, 4, 5] (by decide) (fun F hF => ?_)
                simp only [go_sem, reduceIte, reduceCtorEq, Nat.reduceLT, Nat.reduceLeDiff, Nat.reduceEqDiff, Nat.reduceAdd, Nat.reduceSub, Nat.reduceMul, Int.reduceEq, Int.reduceLT, Int.reduceLE, Int.reduceToNat, iA]
                refine hF _ ?_; clear hF F
                simp only [go_sem, reduceIte, reduceCtorEq, Nat.reduceLT, Nat.reduceLeDiff, Nat.reduceEqDiff, Nat.reduceAdd, Nat.reduceSub, Nat.reduceMul, Int.reduceEq, Int.reduceLT, Int.reduceLE, Int.reduceToNat, iA]
                refine run_chk ?_
                try simp only [decide_eq_true_eq, decide_eq_false_iff_not] at *
                exact ⟨i + 1, ⟨by omega, all_take hx hi.2 (dig_in (by omega) (by omega))⟩, by omega, Sub.of_eq (by rw [num_step hx (by omega) hi.2 (by omega) (by omega), IntWalk.i64_in _ (by omega)]; rfl)⟩
                )
        · try simp only [decide_eq_true_eq, decide_eq_false_iff_not] at h27
          refine run_exit (k' := _) rfl ?_
          refine run_seq ?_
          refine run_regS [2, 3] (by decide) (fun F hF => ?_)
          simp only [go_sem, reduceIte, reduceCtorEq, Nat.reduceLT, Nat.reduceLeDiff, Nat.reduceEqDiff, Nat.reduceAdd, Nat.reduceSub, Nat.reduceMul, Int.reduceEq, Int.reduceLT, Int.reduceLE, Int.reduceToNat, iA]
          refine hF _ ?_; clear hF F
          simp only [go_sem, reduceIte, reduceCtorEq, Nat.reduceLT, Nat.reduceLeDiff, Nat.reduceEqDiff, Nat.reduceAdd, Nat.reduceSub, Nat.reduceMul, Int.reduceEq, Int.reduceLT, Int.reduceLE, Int.reduceToNat, iA]
          refine run_ret ?_
          refine fin_ofF (.inr rfl) [] rfl ?_ (by first | rfl | rfl | simp only [AV.clo, cloL, encV_clo, Bool.and_true, iA, bA])
          try simp only [go_sem, reduceIte, reduceCtorEq, Nat.reduceLT, Nat.reduceLeDiff, Nat.reduceEqDiff, Nat.reduceAdd, Nat.reduceSub, Nat.reduceMul, Int.reduceEq, Int.reduceLT, Int.reduceLE, Int.reduceToNat, AS.den, resV_one, resV_two, resV_three, clA_nil]
          try simp only [decide_eq_true_eq, decide_eq_false_iff_not] at *
          first
          | exact Le.of_eq (idxA_bad (idxOk_short (by omega)))
          | exact Le.of_eq (idxA_bad (idxOk_long (by omega)))
          | exact Le.of_eq (idxA_bad (idxOk_zero (by omega) (by omega)))
          | exact Le.of_eq (idxA_bad (idxOk_dig hx (dig_lo (by omega))))
          | exact Le.of_eq (idxA_bad (idxOk_dig hx (dig_hi (by omega))))
          | (have ht : s.take i = s := List.take_of_length_le (by omega)
             rw [ht] at hi
             exact Le.of_eq (idxA_good (idxOk_good (by omega) (by omega) (by omega) hi.2) (by rw [ht])))
        )
end Go.Ab

