/- What is proved: contracts of functions of this translation, walked; their plain meaning. No condition beyond those that each theorem names. -/
import Derived.Test.YtjpaecoehajfdaaDoorTt3
set_option linter.all false
namespace Go.Ab
open Go Go.Proofs

set_option maxRecDepth 4000

theorem bytesA_length (l : List UInt8) : (bytesA l).length = l.length := by simp [bytesA]
theorem bytesA_get {l : List UInt8} {i : Nat} {x : UInt8} (h : l[i]? = some x) : (bytesA l)[i]? = some (.val (.int .u8 x.toNat)) := by simp [bytesA, h]

theorem all_get {s : List UInt8} {i : Nat} {x : UInt8} (h : s.all dig = true) (hx : s[i]? = some x) : 48 ≤ x.toNat ∧ x.toNat ≤ 57 := by
  have := List.all_eq_true.1 h x (List.mem_of_getElem? hx)
  simpa only [dig, Bool.and_eq_true, decide_eq_true_eq] using this

theorem head_get {s : List UInt8} (h : 1 ≤ s.length) : s[0]? = some (s.headD 0) := by
  cases s with
  | nil => simp at h
  | cons b l => rfl

theorem all_takeN (s : List UInt8) (i : Nat) (h : s.all dig = true) : (s.take i).all dig = true := by
  rw [List.all_eq_true] at h ⊢
  exact fun x hx => h x (List.mem_of_mem_take hx)

theorem num_step2 {s : List UInt8} {i : Nat} {x : UInt8} (hx : s[i]? = some x) (hl : s.length ≤ 9) (h : s.all dig = true) :
    IntKind.i64.wrap (IntKind.i64.wrap ((numL (s.take i) 0 : Int) * 10) + IntKind.i64.wrap ((x.toNat - 48 : Nat) : Int)) = (numL (s.take (i + 1)) 0 : Nat) := by
  have hb := numL_take_lt s i hl (all_takeN s i h)
  have hd := all_get h hx
  rw [IntWalk.i64_in ((x.toNat - 48 : Nat) : Int) (by omega), IntWalk.i64_in (_ * 10) (by omega), IntWalk.i64_in _ (by omega), take_succ_get hx, numL_append]
  simp only [numL]; omega

theorem call76 : callable Tryd.prog 76 = true := by kernel_rfl
theorem call63 : callable Tryd.prog 63 = true := by kernel_rfl
theorem call33 : callable Tryd.prog 33 = true := by kernel_rfl

theorem atoi76 (W : World) (s : List UInt8) (h : s.all dig = true) (h1 : 1 ≤ s.length) (h2 : s.length ≤ 9) : Pure Tryd.prog W 76 [.str s] (.tup [iA (numL s 0), .val .nilIface]) := by
  have e1 : decide ((0 : Int) < s.length) = true := decide_eq_true (by omega)
  have e2 : decide ((s.length : Int) < 19) = true := decide_eq_true (by omega)
  have e0 := head_get h1
  have ed := all_get h e0
  have e4 : decide (((s.headD 0).toNat : Int) = 45) = false := decide_eq_false (by omega)
  have e5 : decide (((s.headD 0).toNat : Int) = 43) = false := decide_eq_false (by omega)
  refine pure_of_run Tryd.func76 rfl (by rw [Tryd.ntmps76]; simp) ?_
  rw [Tryd.ntmps76, st0_den]
  refine run_seq ?_
  refine run_regS [0] (by decide) (fun F hF => ?_)
  simp only [go_sem, reduceIte, reduceCtorEq, Nat.reduceLT, Nat.reduceLeDiff, Nat.reduceEqDiff, Nat.reduceAdd, Nat.reduceSub, Nat.reduceMul, Int.reduceEq, Int.reduceLT, Int.reduceLE, Int.reduceToNat]
  refine hF _ ?_; clear hF F
  simp only [go_sem, reduceIte, reduceCtorEq, Nat.reduceLT, Nat.reduceLeDiff, Nat.reduceEqDiff, Nat.reduceAdd, Nat.reduceSub, Nat.reduceMul, Int.reduceEq, Int.reduceLT, Int.reduceLE, Int.reduceToNat]
  refine run_seq ?_
  refine run_regS [0, 4] (by decide) (fun F hF => ?_)
  simp only [go_sem, reduceIte, reduceCtorEq, Nat.reduceLT, Nat.reduceLeDiff, Nat.reduceEqDiff, Nat.reduceAdd, Nat.reduceSub, Nat.reduceMul, Int.reduceEq, Int.reduceLT, Int.reduceLE, Int.reduceToNat]
  refine hF _ ?_; clear hF F
  simp only [go_sem, reduceIte, reduceCtorEq, Nat.reduceLT, Nat.reduceLeDiff, Nat.reduceEqDiff, Nat.reduceAdd, Nat.reduceSub, Nat.reduceMul, Int.reduceEq, Int.reduceLT, Int.reduceLE, Int.reduceToNat]
  refine run_seq ?_
  refine run_seq ?_
  refine run_regS [0, 30] (by decide) (fun F hF => ?_)
  simp only [go_sem, reduceIte, reduceCtorEq, Nat.reduceLT, Nat.reduceLeDiff, Nat.reduceEqDiff, Nat.reduceAdd, Nat.reduceSub, Nat.reduceMul, Int.reduceEq, Int.reduceLT, Int.reduceLE, Int.reduceToNat, e1, e2]
  refine hF _ ?_; clear hF F
  simp only [go_sem, reduceIte, reduceCtorEq, Nat.reduceLT, Nat.reduceLeDiff, Nat.reduceEqDiff, Nat.reduceAdd, Nat.reduceSub, Nat.reduceMul, Int.reduceEq, Int.reduceLT, Int.reduceLE, Int.reduceToNat, e1, e2]
  refine run_condA (by simp only [evL, evC, tg, reduceIte, Nat.reduceEqDiff]; rfl) (fun h30 => ?_) (fun h30 => ?_)
  · try simp only [decide_eq_true_eq, decide_eq_false_iff_not] at h30
    first
    | exact absurd h30 (by decide)
    | (
      refine run_seq ?_
      refine run_regS [0, 5] (by decide) (fun F hF => ?_)
      simp only [go_sem, reduceIte, reduceCtorEq, Nat.reduceLT, Nat.reduceLeDiff, Nat.reduceEqDiff, Nat.reduceAdd, Nat.reduceSub, Nat.reduceMul, Int.reduceEq, Int.reduceLT, Int.reduceLE, Int.reduceToNat]
      refine hF _ ?_; clear hF F
      simp only [go_sem, reduceIte, reduceCtorEq, Nat.reduceLT, Nat.reduceLeDiff, Nat.reduceEqDiff, Nat.reduceAdd, Nat.reduceSub, Nat.reduceMul, Int.reduceEq, Int.reduceLT, Int.reduceLE, Int.reduceToNat]
      refine run_seq ?_
      refine run_seq ?_
      refine run_regS [0, 5, 39] (by decide) (fun F hF => ?_)
      simp only [go_sem, reduceIte, reduceCtorEq, Nat.reduceLT, Nat.reduceLeDiff, Nat.reduceEqDiff, Nat.reduceAdd, Nat.reduceSub, Nat.reduceMul, Int.reduceEq, Int.reduceLT, Int.reduceLE, Int.reduceToNat, e0, e4, e5, Int.reduceToNat, Int.toNat_zero]
      refine hF _ ?_; clear hF F
      simp only [go_sem, reduceIte, reduceCtorEq, Nat.reduceLT, Nat.reduceLeDiff, Nat.reduceEqDiff, Nat.reduceAdd, Nat.reduceSub, Nat.reduceMul, Int.reduceEq, Int.reduceLT, Int.reduceLE, Int.reduceToNat, e0, e4, e5, Int.reduceToNat, Int.toNat_zero]
      refine run_condA (by simp only [evL, evC, tg, reduceIte, Nat.reduceEqDiff]; rfl) (fun h39 => ?_) (fun h39 => ?_)
      · try simp only [decide_eq_true_eq, decide_eq_false_iff_not] at h39
        first
        | exact absurd h39 (by decide)
        | (
          refine run_seq ?_
          refine run_regS [0, 5] (by decide) (fun F hF => ?_)
          simp only [go_sem, reduceIte, reduceCtorEq, Nat.reduceLT, Nat.reduceLeDiff, Nat.reduceEqDiff, Nat.reduceAdd, Nat.reduceSub, Nat.reduceMul, Int.reduceEq, Int.reduceLT, Int.reduceLE, Int.reduceToNat]
          refine hF _ ?_; clear hF F
          simp only [go_sem, reduceIte, reduceCtorEq, Nat.reduceLT, Nat.reduceLeDiff, Nat.reduceEqDiff, Nat.reduceAdd, Nat.reduceSub, Nat.reduceMul, Int.reduceEq, Int.reduceLT, Int.reduceLE, Int.reduceToNat]
          refine run_seq ?_
          refine run_regS [0, 5, 44] (by decide) (fun F hF => ?_)
          simp only [go_sem, reduceIte, reduceCtorEq, Nat.reduceLT, Nat.reduceLeDiff, Nat.reduceEqDiff, Nat.reduceAdd, Nat.reduceSub, Nat.reduceMul, Int.reduceEq, Int.reduceLT, Int.reduceLE, Int.reduceToNat]
          refine hF _ ?_; clear hF F
          simp only [go_sem, reduceIte, reduceCtorEq, Nat.reduceLT, Nat.reduceLeDiff, Nat.reduceEqDiff, Nat.reduceAdd, Nat.reduceSub, Nat.reduceMul, Int.reduceEq, Int.reduceLT, Int.reduceLE, Int.reduceToNat]
          refine run_condA (by simp only [evL, evC, tg, reduceIte, Nat.reduceEqDiff]; rfl) (fun h44 => ?_) (fun h44 => ?_)
          · try simp only [decide_eq_true_eq, decide_eq_false_iff_not] at h44
            refine run_seq ?_
            refine run_regS [2, 3] (by decide) (fun F hF => ?_)
            simp only [go_sem, reduceIte, reduceCtorEq, Nat.reduceLT, Nat.reduceLeDiff, Nat.reduceEqDiff, Nat.reduceAdd, Nat.reduceSub, Nat.reduceMul, Int.reduceEq, Int.reduceLT, Int.reduceLE, Int.reduceToNat]
            refine hF _ ?_; clear hF F
            simp only [go_sem, reduceIte, reduceCtorEq, Nat.reduceLT, Nat.reduceLeDiff, Nat.reduceEqDiff, Nat.reduceAdd, Nat.reduceSub, Nat.reduceMul, Int.reduceEq, Int.reduceLT, Int.reduceLE, Int.reduceToNat]
            refine run_ret ?_
            refine fin_ofF (.inr rfl) [] rfl ?_ (by first | rfl | rfl | simp only [AV.clo, cloL, encV_clo, Bool.and_true, iA, bA])
            try simp only [go_sem, reduceIte, reduceCtorEq, Nat.reduceLT, Nat.reduceLeDiff, Nat.reduceEqDiff, Nat.reduceAdd, Nat.reduceSub, Nat.reduceMul, Int.reduceEq, Int.reduceLT, Int.reduceLE, Int.reduceToNat, AS.den, resV_one, resV_two, resV_three, clA_nil]
            have ht : s.take i = s := List.take_of_length_le (by omega)
            rw [ht]
            exact Le.refl _
          · try simp only [decide_eq_true_eq, decide_eq_false_iff_not] at h44
            refine run_skip ?_
            refine run_seq ?_
            refine run_regS [0, 5, 6] (by decide) (fun F hF => ?_)
            simp only [go_sem, reduceIte, reduceCtorEq, Nat.reduceLT, Nat.reduceLeDiff, Nat.reduceEqDiff, Nat.reduceAdd, Nat.reduceSub, Nat.reduceMul, Int.reduceEq, Int.reduceLT, Int.reduceLE, Int.reduceToNat]
            refine hF _ ?_; clear hF F
            simp only [go_sem, reduceIte, reduceCtorEq, Nat.reduceLT, Nat.reduceLeDiff, Nat.reduceEqDiff, Nat.reduceAdd, Nat.reduceSub, Nat.reduceMul, Int.reduceEq, Int.reduceLT, Int.reduceLE, Int.reduceToNat]
            refine run_seq ?_
            refine run_seq ?_
            refine run_regS [5, 6, 47, 48, 49] (by decide) (fun F hF => ?_)
            simp only [go_sem, reduceIte, reduceCtorEq, Nat.reduceLT, Nat.reduceLeDiff, Nat.reduceEqDiff, Nat.reduceAdd, Nat.reduceSub, Nat.reduceMul, Int.reduceEq, Int.reduceLT, Int.reduceLE, Int.reduceToNat, bytesA_length, and_true]
            refine ⟨by unfold maxLen; omega, ?_⟩
            refine hF _ ?_; clear hF F
            simp only [go_sem, reduceIte, reduceCtorEq, Nat.reduceLT, Nat.reduceLeDiff, Nat.reduceEqDiff, Nat.reduceAdd, Nat.reduceSub, Nat.reduceMul, Int.reduceEq, Int.reduceLT, Int.reduceLE, Int.reduceToNat, bytesA_length, and_true]
            refine run_block ?_
            refine run_loopA (fun i : Nat => ⟨[(5, .str s), (6, iA (numL (s.take i) 0)), (47, .sl 1 (bytesA s) []), (48, iA s.length), (49, iA i)], []⟩) (fun i => i ≤ s.length) (fun i => s.length - i) 0 (Sub.of_eq rfl) (by omega) (fun i hi => ?_)
            refine run_seq ?_
            refine run_regS [5, 6, 47, 48, 49, 50] (by decide) (fun F hF => ?_)
            simp only [go_sem, reduceIte, reduceCtorEq, Nat.reduceLT, Nat.reduceLeDiff, Nat.reduceEqDiff, Nat.reduceAdd, Nat.reduceSub, Nat.reduceMul, Int.reduceEq, Int.reduceLT, Int.reduceLE, Int.reduceToNat, iA]
            refine hF _ ?_; clear hF F
            simp only [go_sem, reduceIte, reduceCtorEq, Nat.reduceLT, Nat.reduceLeDiff, Nat.reduceEqDiff, Nat.reduceAdd, Nat.reduceSub, Nat.reduceMul, Int.reduceEq, Int.reduceLT, Int.reduceLE, Int.reduceToNat, iA]
            refine run_seq ?_
            refine run_condA (by simp only [evL, evC, tg, reduceIte, Nat.reduceEqDiff]; rfl) (fun h50 => ?_) (fun h50 => ?_)
            · try simp only [decide_eq_true_eq, decide_eq_false_iff_not] at h50
              obtain ⟨x, hx⟩ : ∃ x, s[i]? = some x := ⟨s[i]'(by omega), by simp⟩
              have hb := bytesA_get hx
              have hd := all_get h hx
              have hw : IntKind.u8.wrap ((x.toNat : Int) - 48) = ((x.toNat - 48 : Nat) : Int) := by rw [IntWalk.u8_in _ (by omega)]; omega
              have h9 : decide ((9 : Int) < ((x.toNat - 48 : Nat) : Int)) = false := decide_eq_false (by omega)
              refine run_skip ?_
              refine run_seq ?_
              refine run_block ?_
              refine run_seq ?_
              refine run_regS [5, 6, 8, 47, 48, 49] (by decide) (fun F hF => ?_)
              simp only [go_sem, reduceIte, reduceCtorEq, Nat.reduceLT, Nat.reduceLeDiff, Nat.reduceEqDiff, Nat.reduceAdd, Nat.reduceSub, Nat.reduceMul, Int.reduceEq, Int.reduceLT, Int.reduceLE, Int.reduceToNat, hb, Int.toNat_natCast, Int.natCast_nonneg]
              refine hF _ ?_; clear hF F
              simp only [go_sem, reduceIte, reduceCtorEq, Nat.reduceLT, Nat.reduceLeDiff, Nat.reduceEqDiff, Nat.reduceAdd, Nat.reduceSub, Nat.reduceMul, Int.reduceEq, Int.reduceLT, Int.reduceLE, Int.reduceToNat, hb, Int.toNat_natCast, Int.natCast_nonneg]
              refine run_seq ?_
              refine run_regS [5, 6, 8, 47, 48, 49] (by decide) (fun F hF => ?_)
              simp only [go_sem, reduceIte, reduceCtorEq, Nat.reduceLT, Nat.reduceLeDiff, Nat.reduceEqDiff, Nat.reduceAdd, Nat.reduceSub, Nat.reduceMul, Int.reduceEq, Int.reduceLT, Int.reduceLE, Int.reduceToNat, hw]
              refine hF _ ?_; clear hF F
              simp only [go_sem, reduceIte, reduceCtorEq, Nat.reduceLT, Nat.reduceLeDiff, Nat.reduceEqDiff, Nat.reduceAdd, Nat.reduceSub, Nat.reduceMul, Int.reduceEq, Int.reduceLT, Int.reduceLE, Int.reduceToNat, hw]
              refine run_seq ?_
              refine run_seq ?_
              refine run_regS [5, 6, 8, 47, 48, 49, 56] (by decide) (fun F hF => ?_)
              simp only [go_sem, reduceIte, reduceCtorEq, Nat.reduceLT, Nat.reduceLeDiff, Nat.reduceEqDiff, Nat.reduceAdd, Nat.reduceSub, Nat.reduceMul, Int.reduceEq, Int.reduceLT, Int.reduceLE, Int.reduceToNat, h9]
              refine hF _ ?_; clear hF F
              simp only [go_sem, reduceIte, reduceCtorEq, Nat.reduceLT, Nat.reduceLeDiff, Nat.reduceEqDiff, Nat.reduceAdd, Nat.reduceSub, Nat.reduceMul, Int.reduceEq, Int.reduceLT, Int.reduceLE, Int.reduceToNat, h9]
              refine run_condA (by simp only [evL, evC, tg, reduceIte, Nat.reduceEqDiff]; rfl) (fun h56 => ?_) (fun h56 => ?_)
              · try simp only [decide_eq_true_eq, decide_eq_false_iff_not] at h56
                first
                | exact absurd h56 (by decide)
                | (
                  refine run_seq ?_
                  refine run_regS [2, 3] (by decide) (fun F hF => ?_)
                  simp only [go_sem, reduceIte, reduceCtorEq, Nat.reduceLT, Nat.reduceLeDiff, Nat.reduceEqDiff, Nat.reduceAdd, Nat.reduceSub, Nat.reduceMul, Int.reduceEq, Int.reduceLT, Int.reduceLE, Int.reduceToNat]
                  refine hF _ ?_; clear hF F
                  simp only [go_sem, reduceIte, reduceCtorEq, Nat.reduceLT, Nat.reduceLeDiff, Nat.reduceEqDiff, Nat.reduceAdd, Nat.reduceSub, Nat.reduceMul, Int.reduceEq, Int.reduceLT, Int.reduceLE, Int.reduceToNat]
                  refine run_ret ?_
                  refine fin_ofF (.inr rfl) [] rfl ?_ (by first | rfl | rfl | simp only [AV.clo, cloL, encV_clo, Bool.and_true, iA, bA])
                  try simp only [go_sem, reduceIte, reduceCtorEq, Nat.reduceLT, Nat.reduceLeDiff, Nat.reduceEqDiff, Nat.reduceAdd, Nat.reduceSub, Nat.reduceMul, Int.reduceEq, Int.reduceLT, Int.reduceLE, Int.reduceToNat, AS.den, resV_one, resV_two, resV_three, clA_nil]
                  have ht : s.take i = s := List.take_of_length_le (by omega)
                  rw [ht]
                  exact Le.refl _
                  )
              · try simp only [decide_eq_true_eq, decide_eq_false_iff_not] at h56
                first
                | exact absurd h56 (by decide)
                | (
                  refine run_skip ?_
                  refine run_regS [5, 6, 47, 48, 49] (by decide) (fun F hF => ?_)
                  simp only [go_sem, reduceIte, reduceCtorEq, Nat.reduceLT, Nat.reduceLeDiff, Nat.reduceEqDiff, Nat.reduceAdd, Nat.reduceSub, Nat.reduceMul, Int.reduceEq, Int.reduceLT, Int.reduceLE, Int.reduceToNat, iA]
                  refine hF _ ?_; clear hF F
                  simp only [go_sem, reduceIte, reduceCtorEq, Nat.reduceLT, Nat.reduceLeDiff, Nat.reduceEqDiff, Nat.reduceAdd, Nat.reduceSub, Nat.reduceMul, Int.reduceEq, Int.reduceLT, Int.reduceLE, Int.reduceToNat, iA]
                  refine run_blk ?_
                  refine run_regS [5, 6, 47, 48, 49] (by decide) (fun F hF => ?_)
                  simp only [go_sem, reduceIte, reduceCtorEq, Nat.reduceLT, Nat.reduceLeDiff, Nat.reduceEqDiff, Nat.reduceAdd, Nat.reduceSub, Nat.reduceMul, Int.reduceEq, Int.reduceLT, Int.reduceLE, Int.reduceToNat, iA]
                  refine hF _ ?_; clear hF F
                  simp only [go_sem, reduceIte, reduceCtorEq, Nat.reduceLT, Nat.reduceLeDiff, Nat.reduceEqDiff, Nat.reduceAdd, Nat.reduceSub, Nat.reduceMul, Int.reduceEq, Int.reduceLT, Int.reduceLE, Int.reduceToNat, iA]
                  refine run_chk ?_
                  exact ⟨i + 1, by omega, by omega, Sub.of_eq (by rw [num_step2 hx h2 h, IntWalk.i64_in _ (by omega)]; rfl)⟩
                  )
            · try simp only [decide_eq_true_eq, decide_eq_false_iff_not] at h50
              refine run_exit (k' := _) rfl ?_
              refine run_seq ?_
              refine run_seq ?_
              refine run_regS [6, 66] (by decide) (fun F hF => ?_)
              simp only [go_sem, reduceIte, reduceCtorEq, Nat.reduceLT, Nat.reduceLeDiff, Nat.reduceEqDiff, Nat.reduceAdd, Nat.reduceSub, Nat.reduceMul, Int.reduceEq, Int.reduceLT, Int.reduceLE, Int.reduceToNat, e0, e4, Int.reduceToNat, Int.toNat_zero, iA]
              refine hF _ ?_; clear hF F
              simp only [go_sem, reduceIte, reduceCtorEq, Nat.reduceLT, Nat.reduceLeDiff, Nat.reduceEqDiff, Nat.reduceAdd, Nat.reduceSub, Nat.reduceMul, Int.reduceEq, Int.reduceLT, Int.reduceLE, Int.reduceToNat, e0, e4, Int.reduceToNat, Int.toNat_zero, iA]
              refine run_condA (by simp only [evL, evC, tg, reduceIte, Nat.reduceEqDiff]; rfl) (fun h66 => ?_) (fun h66 => ?_)
              · try simp only [decide_eq_true_eq, decide_eq_false_iff_not] at h66
                first
                | exact absurd h66 (by decide)
                | (
                  refine run_regS [6] (by decide) (fun F hF => ?_)
                  simp only [go_sem, reduceIte, reduceCtorEq, Nat.reduceLT, Nat.reduceLeDiff, Nat.reduceEqDiff, Nat.reduceAdd, Nat.reduceSub, Nat.reduceMul, Int.reduceEq, Int.reduceLT, Int.reduceLE, Int.reduceToNat]
                  refine hF _ ?_; clear hF F
                  simp only [go_sem, reduceIte, reduceCtorEq, Nat.reduceLT, Nat.reduceLeDiff, Nat.reduceEqDiff, Nat.reduceAdd, Nat.reduceSub, Nat.reduceMul, Int.reduceEq, Int.reduceLT, Int.reduceLE, Int.reduceToNat]
                  refine run_seq ?_
                  refine run_regS [2, 3] (by decide) (fun F hF => ?_)
                  simp only [go_sem, reduceIte, reduceCtorEq, Nat.reduceLT, Nat.reduceLeDiff, Nat.reduceEqDiff, Nat.reduceAdd, Nat.reduceSub, Nat.reduceMul, Int.reduceEq, Int.reduceLT, Int.reduceLE, Int.reduceToNat, iA]
                  refine hF _ ?_; clear hF F
                  simp only [go_sem, reduceIte, reduceCtorEq, Nat.reduceLT, Nat.reduceLeDiff, Nat.reduceEqDiff, Nat.reduceAdd, Nat.reduceSub, Nat.reduceMul, Int.reduceEq, Int.reduceLT, Int.reduceLE, Int.reduceToNat, iA]
                  refine run_ret ?_
                  refine fin_ofF (.inr rfl) [] rfl ?_ (by first | rfl | rfl | simp only [AV.clo, cloL, encV_clo, Bool.and_true, iA, bA])
                  try simp only [go_sem, reduceIte, reduceCtorEq, Nat.reduceLT, Nat.reduceLeDiff, Nat.reduceEqDiff, Nat.reduceAdd, Nat.reduceSub, Nat.reduceMul, Int.reduceEq, Int.reduceLT, Int.reduceLE, Int.reduceToNat, AS.den, resV_one, resV_two, resV_three, clA_nil]
                  have ht : s.take i = s := List.take_of_length_le (by omega)
                  rw [ht]
                  exact Le.refl _
                  )
              · try simp only [decide_eq_true_eq, decide_eq_false_iff_not] at h66
                first
                | exact absurd h66 (by decide)
                | (
                  refine run_skip ?_
                  refine run_seq ?_
                  refine run_regS [2, 3] (by decide) (fun F hF => ?_)
                  simp only [go_sem, reduceIte, reduceCtorEq, Nat.reduceLT, Nat.reduceLeDiff, Nat.reduceEqDiff, Nat.reduceAdd, Nat.reduceSub, Nat.reduceMul, Int.reduceEq, Int.reduceLT, Int.reduceLE, Int.reduceToNat, iA]
                  refine hF _ ?_; clear hF F
                  simp only [go_sem, reduceIte, reduceCtorEq, Nat.reduceLT, Nat.reduceLeDiff, Nat.reduceEqDiff, Nat.reduceAdd, Nat.reduceSub, Nat.reduceMul, Int.reduceEq, Int.reduceLT, Int.reduceLE, Int.reduceToNat, iA]
                  refine run_ret ?_
                  refine fin_ofF (.inr rfl) [] rfl ?_ (by first | rfl | rfl | simp only [AV.clo, cloL, encV_clo, Bool.and_true, iA, bA])
                  try simp only [go_sem, reduceIte, reduceCtorEq, Nat.reduceLT, Nat.reduceLeDiff, Nat.reduceEqDiff, Nat.reduceAdd, Nat.reduceSub, Nat.reduceMul, Int.reduceEq, Int.reduceLT, Int.reduceLE, Int.reduceToNat, AS.den, resV_one, resV_two, resV_three, clA_nil]
                  have ht : s.take i = s := List.take_of_length_le (by omega)
                  rw [ht]
                  exact Le.refl _
                  )
          )
      · try simp only [decide_eq_true_eq, decide_eq_false_iff_not] at h39
        first
        | exact absurd h39 (by decide)
        | (
          refine run_skip ?_
          refine run_seq ?_
          refine run_regS [0, 5, 6] (by decide) (fun F hF => ?_)
          simp only [go_sem, reduceIte, reduceCtorEq, Nat.reduceLT, Nat.reduceLeDiff, Nat.reduceEqDiff, Nat.reduceAdd, Nat.reduceSub, Nat.reduceMul, Int.reduceEq, Int.reduceLT, Int.reduceLE, Int.reduceToNat]
          refine hF _ ?_; clear hF F
          simp only [go_sem, reduceIte, reduceCtorEq, Nat.reduceLT, Nat.reduceLeDiff, Nat.reduceEqDiff, Nat.reduceAdd, Nat.reduceSub, Nat.reduceMul, Int.reduceEq, Int.reduceLT, Int.reduceLE, Int.reduceToNat]
          refine run_seq ?_
          refine run_seq ?_
          refine run_regS [5, 6, 47, 48, 49] (by decide) (fun F hF => ?_)
          simp only [go_sem, reduceIte, reduceCtorEq, Nat.reduceLT, Nat.reduceLeDiff, Nat.reduceEqDiff, Nat.reduceAdd, Nat.reduceSub, Nat.reduceMul, Int.reduceEq, Int.reduceLT, Int.reduceLE, Int.reduceToNat, bytesA_length, and_true]
          refine ⟨by unfold maxLen; omega, ?_⟩
          refine hF _ ?_; clear hF F
          simp only [go_sem, reduceIte, reduceCtorEq, Nat.reduceLT, Nat.reduceLeDiff, Nat.reduceEqDiff, Nat.reduceAdd, Nat.reduceSub, Nat.reduceMul, Int.reduceEq, Int.reduceLT, Int.reduceLE, Int.reduceToNat, bytesA_length, and_true]
          refine run_block ?_
          refine run_loopA (fun i : Nat => ⟨[(5, .str s), (6, iA (numL (s.take i) 0)), (47, .sl 1 (bytesA s) []), (48, iA s.length), (49, iA i)], []⟩) (fun i => i ≤ s.length) (fun i => s.length - i) 0 (Sub.of_eq rfl) (by omega) (fun i hi => ?_)
          refine run_seq ?_
          refine run_regS [5, 6, 47, 48, 49, 50] (by decide) (fun F hF => ?_)
          simp only [go_sem, reduceIte, reduceCtorEq, Nat.reduceLT, Nat.reduceLeDiff, Nat.reduceEqDiff, Nat.reduceAdd, Nat.reduceSub, Nat.reduceMul, Int.reduceEq, Int.reduceLT, Int.reduceLE, Int.reduceToNat, iA]
          refine hF _ ?_; clear hF F
          simp only [go_sem, reduceIte, reduceCtorEq, Nat.reduceLT, Nat.reduceLeDiff, Nat.reduceEqDiff, Nat.reduceAdd, Nat.reduceSub, Nat.reduceMul, Int.reduceEq, Int.reduceLT, Int.reduceLE, Int.reduceToNat, iA]
          refine run_seq ?_
          refine run_condA (by simp only [evL, evC, tg, reduceIte, Nat.reduceEqDiff]; rfl) (fun h50 => ?_) (fun h50 => ?_)
          · try simp only [decide_eq_true_eq, decide_eq_false_iff_not] at h50
            obtain ⟨x, hx⟩ : ∃ x, s[i]? = some x := ⟨s[i]'(by omega), by simp⟩
            have hb := bytesA_get hx
            have hd := all_get h hx
            have hw : IntKind.u8.wrap ((x.toNat : Int) - 48) = ((x.toNat - 48 : Nat) : Int) := by rw [IntWalk.u8_in _ (by omega)]; omega
            have h9 : decide ((9 : Int) < ((x.toNat - 48 : Nat) : Int)) = false := decide_eq_false (by omega)
            refine run_skip ?_
            refine run_seq ?_
            refine run_block ?_
            refine run_seq ?_
            refine run_regS [5, 6, 8, 47, 48, 49] (by decide) (fun F hF => ?_)
            simp only [go_sem, reduceIte, reduceCtorEq, Nat.reduceLT, Nat.reduceLeDiff, Nat.reduceEqDiff, Nat.reduceAdd, Nat.reduceSub, Nat.reduceMul, Int.reduceEq, Int.reduceLT, Int.reduceLE, Int.reduceToNat, hb, Int.toNat_natCast, Int.natCast_nonneg]
            refine hF _ ?_; clear hF F
            simp only [go_sem, reduceIte, reduceCtorEq, Nat.reduceLT, Nat.reduceLeDiff, Nat.reduceEqDiff, Nat.reduceAdd, Nat.reduceSub, Nat.reduceMul, Int.reduceEq, Int.reduceLT, Int.reduceLE, Int.reduceToNat, hb, Int.toNat_natCast, Int.natCast_nonneg]
            refine run_seq ?_
            refine run_regS [5, 6, 8, 47, 48, 49] (by decide) (fun F hF => ?_)
            simp only [go_sem, reduceIte, reduceCtorEq, Nat.reduceLT, Nat.reduceLeDiff, Nat.reduceEqDiff, Nat.reduceAdd, Nat.reduceSub, Nat.reduceMul, Int.reduceEq, Int.reduceLT, Int.reduceLE, Int.reduceToNat, hw]
            refine hF _ ?_; clear hF F
            simp only [go_sem, reduceIte, reduceCtorEq, Nat.reduceLT, Nat.reduceLeDiff, Nat.reduceEqDiff, Nat.reduceAdd, Nat.reduceSub, Nat.reduceMul, Int.reduceEq, Int.reduceLT, Int.reduceLE, Int.reduceToNat, hw]
            refine run_seq ?_
            refine run_seq ?_
            refine run_regS [5, 6, 8, 47, 48, 49, 56] (by decide) (fun F hF => ?_)
            simp only [go_sem, reduceIte, reduceCtorEq, Nat.reduceLT, Nat.reduceLeDiff, Nat.reduceEqDiff, Nat.reduceAdd, Nat.reduceSub, Nat.reduceMul, Int.reduceEq, Int.reduceLT, Int.reduceLE, Int.reduceToNat, h9]
            refine hF _ ?_; clear hF F
            simp only [go_sem, reduceIte, reduceCtorEq, Nat.reduceLT, Nat.reduceLeDiff, Nat.reduceEqDiff, Nat.reduceAdd, Nat.reduceSub, Nat.reduceMul, Int.reduceEq, Int.reduceLT, Int.reduceLE, Int.reduceToNat, h9]
            refine run_condA (by simp only [evL, evC, tg, reduceIte, Nat.reduceEqDiff]; rfl) (fun h56 => ?_) (fun h56 => ?_)
            · try simp only [decide_eq_true_eq, decide_eq_false_iff_not] at h56
              first
              | exact absurd h56 (by decide)
              | (
                refine run_seq ?_
                refine run_regS [2, 3] (by decide) (fun F hF => ?_)
                simp only [go_sem, reduceIte, reduceCtorEq, Nat.reduceLT, Nat.reduceLeDiff, Nat.reduceEqDiff, Nat.reduceAdd, Nat.reduceSub, Nat.reduceMul, Int.reduceEq, Int.reduceLT, Int.reduceLE, Int.reduceToNat]
                refine hF _ ?_; clear hF F
                simp only [go_sem, reduceIte, reduceCtorEq, Nat.reduceLT, Nat.reduceLeDiff, Nat.reduceEqDiff, Nat.reduceAdd, Nat.reduceSub, Nat.reduceMul, Int.reduceEq, Int.reduceLT, Int.reduceLE, Int.reduceToNat]
                refine run_ret ?_
                refine fin_ofF (.inr rfl) [] rfl ?_ (by first | rfl | rfl | simp only [AV.clo, cloL, encV_clo, Bool.and_true, iA, bA])
                try simp only [go_sem, reduceIte, reduceCtorEq, Nat.reduceLT, Nat.reduceLeDiff, Nat.reduceEqDiff, Nat.reduceAdd, Nat.reduceSub, Nat.reduceMul, Int.reduceEq, Int.reduceLT, Int.reduceLE, Int.reduceToNat, AS.den, resV_one, resV_two, resV_three, clA_nil]
                have ht : s.take i = s := List.take_of_length_le (by omega)
                rw [ht]
                exact Le.refl _
                )
            · try simp only [decide_eq_true_eq, decide_eq_false_iff_not] at h56
              first
              | exact absurd h56 (by decide)
              | (
                refine run_skip ?_
                refine run_regS [5, 6, 47, 48, 49] (by decide) (fun F hF => ?_)
                simp only [go_sem, reduceIte, reduceCtorEq, Nat.reduceLT, Nat.reduceLeDiff, Nat.reduceEqDiff, Nat.reduceAdd, Nat.reduceSub, Nat.reduceMul, Int.reduceEq, Int.reduceLT, Int.reduceLE, Int.reduceToNat, iA]
                refine hF _ ?_; clear hF F
                simp only [go_sem, reduceIte, reduceCtorEq, Nat.reduceLT, Nat.reduceLeDiff, Nat.reduceEqDiff, Nat.reduceAdd, Nat.reduceSub, Nat.reduceMul, Int.reduceEq, Int.reduceLT, Int.reduceLE, Int.reduceToNat, iA]
                refine run_blk ?_
                refine run_regS [5, 6, 47, 48, 49] (by decide) (fun F hF => ?_)
                simp only [go_sem, reduceIte, reduceCtorEq, Nat.reduceLT, Nat.reduceLeDiff, Nat.reduceEqDiff, Nat.reduceAdd, Nat.reduceSub, Nat.reduceMul, Int.reduceEq, Int.reduceLT, Int.reduceLE, Int.reduceToNat, iA]
                refine hF _ ?_; clear hF F
                simp only [go_sem, reduceIte, reduceCtorEq, Nat.reduceLT, Nat.reduceLeDiff, Nat.reduceEqDiff, Nat.reduceAdd, Nat.reduceSub, Nat.reduceMul, Int.reduceEq, Int.reduceLT, Int.reduceLE, Int.reduceToNat, iA]
                refine run_chk ?_
                exact ⟨i + 1, by omega, by omega, Sub.of_eq (by rw [num_step2 hx h2 h, IntWalk.i64_in _ (by omega)]; rfl)⟩
                )
          · try simp only [decide_eq_true_eq, decide_eq_false_iff_not] at h50
            refine run_exit (k' := _) rfl ?_
            refine run_seq ?_
            refine run_seq ?_
            refine run_regS [6, 66] (by decide) (fun F hF => ?_)
            simp only [go_sem, reduceIte, reduceCtorEq, Nat.reduceLT, Nat.reduceLeDiff, Nat.reduceEqDiff, Nat.reduceAdd, Nat.reduceSub, Nat.reduceMul, Int.reduceEq, Int.reduceLT, Int.reduceLE, Int.reduceToNat, e0, e4, Int.reduceToNat, Int.toNat_zero, iA]
            refine hF _ ?_; clear hF F
            simp only [go_sem, reduceIte, reduceCtorEq, Nat.reduceLT, Nat.reduceLeDiff, Nat.reduceEqDiff, Nat.reduceAdd, Nat.reduceSub, Nat.reduceMul, Int.reduceEq, Int.reduceLT, Int.reduceLE, Int.reduceToNat, e0, e4, Int.reduceToNat, Int.toNat_zero, iA]
            refine run_condA (by simp only [evL, evC, tg, reduceIte, Nat.reduceEqDiff]; rfl) (fun h66 => ?_) (fun h66 => ?_)
            · try simp only [decide_eq_true_eq, decide_eq_false_iff_not] at h66
              first
              | exact absurd h66 (by decide)
              | (
                refine run_regS [6] (by decide) (fun F hF => ?_)
                simp only [go_sem, reduceIte, reduceCtorEq, Nat.reduceLT, Nat.reduceLeDiff, Nat.reduceEqDiff, Nat.reduceAdd, Nat.reduceSub, Nat.reduceMul, Int.reduceEq, Int.reduceLT, Int.reduceLE, Int.reduceToNat]
                refine hF _ ?_; clear hF F
                simp only [go_sem, reduceIte, reduceCtorEq, Nat.reduceLT, Nat.reduceLeDiff, Nat.reduceEqDiff, Nat.reduceAdd, Nat.reduceSub, Nat.reduceMul, Int.reduceEq, Int.reduceLT, Int.reduceLE, Int.reduceToNat]
                refine run_seq ?_
                refine run_regS [2, 3] (by decide) (fun F hF => ?_)
                simp only [go_sem, reduceIte, reduceCtorEq, Nat.reduceLT, Nat.reduceLeDiff, Nat.reduceEqDiff, Nat.reduceAdd, Nat.reduceSub, Nat.reduceMul, Int.reduceEq, Int.reduceLT, Int.reduceLE, Int.reduceToNat, iA]
                refine hF _ ?_; clear hF F
                simp only [go_sem, reduceIte, reduceCtorEq, Nat.reduceLT, Nat.reduceLeDiff, Nat.reduceEqDiff, Nat.reduceAdd, Nat.reduceSub, Nat.reduceMul, Int.reduceEq, Int.reduceLT, Int.reduceLE, Int.reduceToNat, iA]
                refine run_ret ?_
                refine fin_ofF (.inr rfl) [] rfl ?_ (by first | rfl | rfl | simp only [AV.clo, cloL, encV_clo, Bool.and_true, iA, bA])
                try simp only [go_sem, reduceIte, reduceCtorEq, Nat.reduceLT, Nat.reduceLeDiff, Nat.reduceEqDiff, Nat.reduceAdd, Nat.reduceSub, Nat.reduceMul, Int.reduceEq, Int.reduceLT, Int.reduceLE, Int.reduceToNat, AS.den, resV_one, resV_two, resV_three, clA_nil]
                have ht : s.take i = s := List.take_of_length_le (by omega)
                rw [ht]
                exact Le.refl _
                )
            · try simp only [decide_eq_true_eq, decide_eq_false_iff_not] at h66
              first
              | exact absurd h66 (by decide)
              | (
                refine run_skip ?_
                refine run_seq ?_
                refine run_regS [2, 3] (by decide) (fun F hF => ?_)
                simp only [go_sem, reduceIte, reduceCtorEq, Nat.reduceLT, Nat.reduceLeDiff, Nat.reduceEqDiff, Nat.reduceAdd, Nat.reduceSub, Nat.reduceMul, Int.reduceEq, Int.reduceLT, Int.reduceLE, Int.reduceToNat, iA]
                refine hF _ ?_; clear hF F
                simp only [go_sem, reduceIte, reduceCtorEq, Nat.reduceLT, Nat.reduceLeDiff, Nat.reduceEqDiff, Nat.reduceAdd, Nat.reduceSub, Nat.reduceMul, Int.reduceEq, Int.reduceLT, Int.reduceLE, Int.reduceToNat, iA]
                refine run_ret ?_
                refine fin_ofF (.inr rfl) [] rfl ?_ (by first | rfl | rfl | simp only [AV.clo, cloL, encV_clo, Bool.and_true, iA, bA])
                try simp only [go_sem, reduceIte, reduceCtorEq, Nat.reduceLT, Nat.reduceLeDiff, Nat.reduceEqDiff, Nat.reduceAdd, Nat.reduceSub, Nat.reduceMul, Int.reduceEq, Int.reduceLT, Int.reduceLE, Int.reduceToNat, AS.den, resV_one, resV_two, resV_three, clA_nil]
                have ht : s.take i = s := List.take_of_length_le (by omega)
                rw [ht]
                exact Le.refl _
                )
          )
      )
  · try simp only [decide_eq_true_eq, decide_eq_false_iff_not] at h30
    first
    | exact absurd h30 (by decide)
    | (
      refine run_skip ?_
      refine run_seq ?_
      refine run_regS [9, 10] (by decide) (fun F hF => ?_)
      simp only [go_sem, reduceIte, reduceCtorEq, Nat.reduceLT, Nat.reduceLeDiff, Nat.reduceEqDiff, Nat.reduceAdd, Nat.reduceSub, Nat.reduceMul, Int.reduceEq, Int.reduceLT, Int.reduceLE, Int.reduceToNat]
      refine hF _ ?_; clear hF F
      simp only [go_sem, reduceIte, reduceCtorEq, Nat.reduceLT, Nat.reduceLeDiff, Nat.reduceEqDiff, Nat.reduceAdd, Nat.reduceSub, Nat.reduceMul, Int.reduceEq, Int.reduceLT, Int.reduceLE, Int.reduceToNat]
      refine run_seq ?_
      refine run_regS [2, 3] (by decide) (fun F hF => ?_)
      simp only [go_sem, reduceIte, reduceCtorEq, Nat.reduceLT, Nat.reduceLeDiff, Nat.reduceEqDiff, Nat.reduceAdd, Nat.reduceSub, Nat.reduceMul, Int.reduceEq, Int.reduceLT, Int.reduceLE, Int.reduceToNat]
      refine hF _ ?_; clear hF F
      simp only [go_sem, reduceIte, reduceCtorEq, Nat.reduceLT, Nat.reduceLeDiff, Nat.reduceEqDiff, Nat.reduceAdd, Nat.reduceSub, Nat.reduceMul, Int.reduceEq, Int.reduceLT, Int.reduceLE, Int.reduceToNat]
      refine run_ret ?_
      refine fin_ofF (.inr rfl) [] rfl ?_ (by first | rfl | rfl | simp only [AV.clo, cloL, encV_clo, Bool.and_true, iA, bA])
      try simp only [go_sem, reduceIte, reduceCtorEq, Nat.reduceLT, Nat.reduceLeDiff, Nat.reduceEqDiff, Nat.reduceAdd, Nat.reduceSub, Nat.reduceMul, Int.reduceEq, Int.reduceLT, Int.reduceLE, Int.reduceToNat, AS.den, resV_one, resV_two, resV_three, clA_nil]
      have ht : s.take i = s := List.take_of_length_le (by omega)
      rw [ht]
      exact Le.refl _
      )

theorem atoi63 (W : World) (s : List UInt8) (h : s.all dig = true) (h1 : 1 ≤ s.length) (h2 : s.length ≤ 9) : Pure Tryd.prog W 63 [.str s] (.tup [iA (numL s 0), .val .nilIface]) := by
  refine pure_of_run Tryd.func63 rfl (by rw [Tryd.ntmps63]; simp) ?_
  rw [Tryd.ntmps63, st0_den]
  refine run_seq ?_
  refine run_regS [0] (by decide) (fun F hF => ?_)
  simp only [go_sem, reduceIte, reduceCtorEq, Nat.reduceLT, Nat.reduceLeDiff, Nat.reduceEqDiff, Nat.reduceAdd, Nat.reduceSub, Nat.reduceMul, Int.reduceEq, Int.reduceLT, Int.reduceLE, Int.reduceToNat]
  refine hF _ ?_; clear hF F
  simp only [go_sem, reduceIte, reduceCtorEq, Nat.reduceLT, Nat.reduceLeDiff, Nat.reduceEqDiff, Nat.reduceAdd, Nat.reduceSub, Nat.reduceMul, Int.reduceEq, Int.reduceLT, Int.reduceLE, Int.reduceToNat]
  refine run_seq ?_
  refine run_regS [0, 4, 5] (by decide) (fun F hF => ?_)
  simp only [go_sem, reduceIte, reduceCtorEq, Nat.reduceLT, Nat.reduceLeDiff, Nat.reduceEqDiff, Nat.reduceAdd, Nat.reduceSub, Nat.reduceMul, Int.reduceEq, Int.reduceLT, Int.reduceLE, Int.reduceToNat]
  refine aCall_pure0 (atoi76 W s h h1 h2) call76 (.cons (.refl _) .nil) rfl ?_
  simp only [go_sem, reduceIte, reduceCtorEq, Nat.reduceLT, Nat.reduceLeDiff, Nat.reduceEqDiff, Nat.reduceAdd, Nat.reduceSub, Nat.reduceMul, Int.reduceEq, Int.reduceLT, Int.reduceLE, Int.reduceToNat]
  refine hF _ ?_; clear hF F
  simp only [go_sem, reduceIte, reduceCtorEq, Nat.reduceLT, Nat.reduceLeDiff, Nat.reduceEqDiff, Nat.reduceAdd, Nat.reduceSub, Nat.reduceMul, Int.reduceEq, Int.reduceLT, Int.reduceLE, Int.reduceToNat]
  refine run_seq ?_
  refine run_seq ?_
  refine run_regS [0, 4, 5, 12] (by decide) (fun F hF => ?_)
  simp only [go_sem, reduceIte, reduceCtorEq, Nat.reduceLT, Nat.reduceLeDiff, Nat.reduceEqDiff, Nat.reduceAdd, Nat.reduceSub, Nat.reduceMul, Int.reduceEq, Int.reduceLT, Int.reduceLE, Int.reduceToNat]
  refine hF _ ?_; clear hF F
  simp only [go_sem, reduceIte, reduceCtorEq, Nat.reduceLT, Nat.reduceLeDiff, Nat.reduceEqDiff, Nat.reduceAdd, Nat.reduceSub, Nat.reduceMul, Int.reduceEq, Int.reduceLT, Int.reduceLE, Int.reduceToNat]
  refine run_condA (by simp only [evL, evC, tg, reduceIte, Nat.reduceEqDiff]; rfl) (fun h12 => ?_) (fun h12 => ?_)
  · try simp only [decide_eq_true_eq, decide_eq_false_iff_not] at h12
    first
    | exact absurd h12 (by decide)
    | (
      refine run_seq ?_
      refine run_regS [2, 3] (by decide) (fun F hF => ?_)
      simp only [go_sem, reduceIte, reduceCtorEq, Nat.reduceLT, Nat.reduceLeDiff, Nat.reduceEqDiff, Nat.reduceAdd, Nat.reduceSub, Nat.reduceMul, Int.reduceEq, Int.reduceLT, Int.reduceLE, Int.reduceToNat]
      refine hF _ ?_; clear hF F
      simp only [go_sem, reduceIte, reduceCtorEq, Nat.reduceLT, Nat.reduceLeDiff, Nat.reduceEqDiff, Nat.reduceAdd, Nat.reduceSub, Nat.reduceMul, Int.reduceEq, Int.reduceLT, Int.reduceLE, Int.reduceToNat]
      refine run_ret ?_
      refine fin_ofF (.inr rfl) [] rfl ?_ (by first | rfl | rfl | simp only [AV.clo, cloL, encV_clo, Bool.and_true, iA, bA])
      try simp only [go_sem, reduceIte, reduceCtorEq, Nat.reduceLT, Nat.reduceLeDiff, Nat.reduceEqDiff, Nat.reduceAdd, Nat.reduceSub, Nat.reduceMul, Int.reduceEq, Int.reduceLT, Int.reduceLE, Int.reduceToNat, AS.den, resV_one, resV_two, resV_three, clA_nil]
      exact Le.refl _
      )
  · try simp only [decide_eq_true_eq, decide_eq_false_iff_not] at h12
    first
    | exact absurd h12 (by decide)
    | (
      refine run_skip ?_
      refine run_seq ?_
      refine run_regS [2, 3] (by decide) (fun F hF => ?_)
      simp only [go_sem, reduceIte, reduceCtorEq, Nat.reduceLT, Nat.reduceLeDiff, Nat.reduceEqDiff, Nat.reduceAdd, Nat.reduceSub, Nat.reduceMul, Int.reduceEq, Int.reduceLT, Int.reduceLE, Int.reduceToNat]
      refine hF _ ?_; clear hF F
      simp only [go_sem, reduceIte, reduceCtorEq, Nat.reduceLT, Nat.reduceLeDiff, Nat.reduceEqDiff, Nat.reduceAdd, Nat.reduceSub, Nat.reduceMul, Int.reduceEq, Int.reduceLT, Int.reduceLE, Int.reduceToNat]
      refine run_ret ?_
      refine fin_ofF (.inr rfl) [] rfl ?_ (by first | rfl | rfl | simp only [AV.clo, cloL, encV_clo, Bool.and_true, iA, bA])
      try simp only [go_sem, reduceIte, reduceCtorEq, Nat.reduceLT, Nat.reduceLeDiff, Nat.reduceEqDiff, Nat.reduceAdd, Nat.reduceSub, Nat.reduceMul, Int.reduceEq, Int.reduceLT, Int.reduceLE, Int.reduceToNat, AS.den, resV_one, resV_two, resV_three, clA_nil]
      exact Le.refl _
      )
end Go.Ab

