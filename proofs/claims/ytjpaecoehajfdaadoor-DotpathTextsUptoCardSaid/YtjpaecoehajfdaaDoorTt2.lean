/- What is proved: contracts of functions of this translation, walked; their plain meaning. No condition beyond those that each theorem names. -/
import Derived.Test.YtjpaecoehajfdaaDoorTt1
import Derived.IntWalk
set_option linter.all false
namespace Go.Ab
open Go Go.Proofs

set_option maxRecDepth 4000

def JV.mem (j : JV) : Nat := if j.items.length < j.names.length then j.items.length else j.names.length
theorem JV.mem_names (j : JV) : j.mem ≤ j.names.length := by unfold JV.mem; split <;> omega
theorem JV.mem_items (j : JV) : j.mem ≤ j.items.length := by unfold JV.mem; split <;> omega

/-- Where a name stands, of the first n. -/
def placeL (s : List UInt8) : List (List UInt8) → Nat → Nat → Int
  | _, 0, _ => -1
  | [], _, _ => -1
  | x :: l, n + 1, i => if x = s then i else placeL s l n (i + 1)

def JV.place (j : JV) (s : List UInt8) : Int := placeL s j.names j.mem 0

theorem placeL_none (s : List UInt8) : ∀ (l : List (List UInt8)) (n i : Nat), (∀ k, k < n → l[k]? ≠ some s) → placeL s l n i = -1
  | _, 0, _, _ => by cases ‹List _› <;> rfl
  | [], n + 1, _, _ => rfl
  | x :: l, n + 1, i, h => by
    simp only [placeL]
    rw [if_neg (fun e => h 0 (by omega) (by simp [e]))]
    exact placeL_none s l n (i + 1) fun k hk => by have := h (k + 1) (by omega); simpa using this

theorem placeL_some (s : List UInt8) : ∀ (l : List (List UInt8)) (n i j : Nat), j < n → l[j]? = some s → (∀ k, k < j → l[k]? ≠ some s) → placeL s l n i = (i + j : Nat)
  | _, 0, _, _, h, _, _ => by omega
  | [], n + 1, _, _, _, h, _ => by simp at h
  | x :: l, n + 1, i, 0, h1, h2, h3 => by
    simp only [placeL]
    rw [if_pos (by simpa using h2)]; rfl
  | x :: l, n + 1, i, j + 1, h1, h2, h3 => by
    simp only [placeL]
    rw [if_neg (fun e => h3 0 (by omega) (by simp [e])), placeL_some s l n (i + 1) j (by omega) (by simpa using h2) fun k hk => by have := h3 (k + 1) (by omega); simpa using this]
    congr 1; omega

theorem call50 : callable Tryd.prog 50 = true := by kernel_rfl
theorem call44 : callable Tryd.prog 44 = true := by kernel_rfl
theorem call64 : callable Tryd.prog 64 = true := by kernel_rfl
theorem mixed0 : Tryd.prog.follows .mixedOrders = true := by kernel_rfl

theorem members50 (W : World) (j : JV) : Pure Tryd.prog W 50 [encV j] (iA j.mem) := by
  refine pure_of_run Tryd.func50 rfl (by rw [Tryd.ntmps50]; simp) ?_
  rw [Tryd.ntmps50, st0_den]
  refine run_seq ?_
  refine run_regS [1] (by decide) (fun F hF => ?_)
  simp only [go_sem, reduceIte, reduceCtorEq, Nat.reduceLT, Nat.reduceLeDiff, Nat.reduceEqDiff, Nat.reduceAdd, Nat.reduceSub, Nat.reduceMul, Int.reduceEq, Int.reduceLT, Int.reduceLE, Int.reduceToNat]
  refine hF _ ?_; clear hF F
  simp only [go_sem, reduceIte, reduceCtorEq, Nat.reduceLT, Nat.reduceLeDiff, Nat.reduceEqDiff, Nat.reduceAdd, Nat.reduceSub, Nat.reduceMul, Int.reduceEq, Int.reduceLT, Int.reduceLE, Int.reduceToNat]
  refine run_seq ?_
  refine run_regS [2] (by decide) (fun F hF => ?_)
  simp only [go_sem, reduceIte, reduceCtorEq, Nat.reduceLT, Nat.reduceLeDiff, Nat.reduceEqDiff, Nat.reduceAdd, Nat.reduceSub, Nat.reduceMul, Int.reduceEq, Int.reduceLT, Int.reduceLE, Int.reduceToNat]
  refine hF _ ?_; clear hF F
  simp only [go_sem, reduceIte, reduceCtorEq, Nat.reduceLT, Nat.reduceLeDiff, Nat.reduceEqDiff, Nat.reduceAdd, Nat.reduceSub, Nat.reduceMul, Int.reduceEq, Int.reduceLT, Int.reduceLE, Int.reduceToNat]
  refine run_ret ?_
  refine fin_ofF (.inr rfl) [] rfl ?_ (by first | rfl | rfl | simp only [AV.clo, cloL, encV_clo, Bool.and_true, iA, bA])
  try simp only [go_sem, reduceIte, reduceCtorEq, Nat.reduceLT, Nat.reduceLeDiff, Nat.reduceEqDiff, Nat.reduceAdd, Nat.reduceSub, Nat.reduceMul, Int.reduceEq, Int.reduceLT, Int.reduceLE, Int.reduceToNat, AS.den, resV_one, resV_two, resV_three, clA_nil]
  exact Le.of_eq (iA_congr (by unfold JV.mem; split <;> rename_i h <;> first | rw [if_pos (by omega)] | rw [if_neg (by omega)]))

theorem place64 (W : World) (j : JV) (s : List UInt8) (hj : j.names.length < 2 ^ 62) : Pure Tryd.prog W 64 [encV j, .str s] (iA (j.place s)) := by
  refine pure_of_run Tryd.func64 rfl (by rw [Tryd.ntmps64]; simp) ?_
  rw [Tryd.ntmps64, st0_den]
  refine run_seq ?_
  refine run_regS [1, 2] (by decide) (fun F hF => ?_)
  simp only [go_sem, reduceIte, reduceCtorEq, Nat.reduceLT, Nat.reduceLeDiff, Nat.reduceEqDiff, Nat.reduceAdd, Nat.reduceSub, Nat.reduceMul, Int.reduceEq, Int.reduceLT, Int.reduceLE, Int.reduceToNat]
  refine hF _ ?_; clear hF F
  simp only [go_sem, reduceIte, reduceCtorEq, Nat.reduceLT, Nat.reduceLeDiff, Nat.reduceEqDiff, Nat.reduceAdd, Nat.reduceSub, Nat.reduceMul, Int.reduceEq, Int.reduceLT, Int.reduceLE, Int.reduceToNat]
  refine run_seq ?_
  refine run_seq ?_
  refine run_regS [1, 2, 7, 8] (by decide) (fun F hF => ?_)
  simp only [go_sem, reduceIte, reduceCtorEq, Nat.reduceLT, Nat.reduceLeDiff, Nat.reduceEqDiff, Nat.reduceAdd, Nat.reduceSub, Nat.reduceMul, Int.reduceEq, Int.reduceLT, Int.reduceLE, Int.reduceToNat, iA]
  refine aCall_flat0 (members50 W j) call50 (.cons (.refl _) .nil) (by simp only [cloL, encV_clo, Bool.and_true]) rfl ?_
  simp only [go_sem, reduceIte, reduceCtorEq, Nat.reduceLT, Nat.reduceLeDiff, Nat.reduceEqDiff, Nat.reduceAdd, Nat.reduceSub, Nat.reduceMul, Int.reduceEq, Int.reduceLT, Int.reduceLE, Int.reduceToNat, iA]
  refine hF _ ?_; clear hF F
  simp only [go_sem, reduceIte, reduceCtorEq, Nat.reduceLT, Nat.reduceLeDiff, Nat.reduceEqDiff, Nat.reduceAdd, Nat.reduceSub, Nat.reduceMul, Int.reduceEq, Int.reduceLT, Int.reduceLE, Int.reduceToNat, iA]
  refine run_block ?_
  refine run_loopA (fun i : Nat => ⟨[(1, .str s), (2, .gp 2 0), (7, iA j.mem), (8, iA i)], [(2, .box (encV j) .own)]⟩) (fun i => i ≤ j.mem ∧ ∀ k, k < i → j.names[k]? ≠ some s) (fun i => j.mem - i) 0 (Sub.of_eq rfl) ⟨by omega, by intro k hk; omega⟩ (fun i hi => ?_)
  refine run_seq ?_
  refine run_regS [1, 2, 7, 8, 9] (by decide) (fun F hF => ?_)
  simp only [go_sem, reduceIte, reduceCtorEq, Nat.reduceLT, Nat.reduceLeDiff, Nat.reduceEqDiff, Nat.reduceAdd, Nat.reduceSub, Nat.reduceMul, Int.reduceEq, Int.reduceLT, Int.reduceLE, Int.reduceToNat, iA]
  refine hF _ ?_; clear hF F
  simp only [go_sem, reduceIte, reduceCtorEq, Nat.reduceLT, Nat.reduceLeDiff, Nat.reduceEqDiff, Nat.reduceAdd, Nat.reduceSub, Nat.reduceMul, Int.reduceEq, Int.reduceLT, Int.reduceLE, Int.reduceToNat, iA]
  refine run_seq ?_
  refine run_condA (by simp only [evL, evC, tg, reduceIte, Nat.reduceEqDiff]; rfl) (fun h9 => ?_) (fun h9 => ?_)
  · simp only [decide_eq_true_eq, decide_eq_false_iff_not] at h9
    obtain ⟨x, hx⟩ : ∃ x, j.names[i]? = some x := ⟨j.names[i]'(by have := j.mem_names; omega), by simp⟩
    refine run_skip ?_
    refine run_seq ?_
    refine run_block ?_
    refine run_seq ?_
    refine run_regS [1, 2, 5, 7, 8] (by decide) (fun F hF => ?_)
    simp only [go_sem, reduceIte, reduceCtorEq, Nat.reduceLT, Nat.reduceLeDiff, Nat.reduceEqDiff, Nat.reduceAdd, Nat.reduceSub, Nat.reduceMul, Int.reduceEq, Int.reduceLT, Int.reduceLE, Int.reduceToNat, iA]
    refine hF _ ?_; clear hF F
    simp only [go_sem, reduceIte, reduceCtorEq, Nat.reduceLT, Nat.reduceLeDiff, Nat.reduceEqDiff, Nat.reduceAdd, Nat.reduceSub, Nat.reduceMul, Int.reduceEq, Int.reduceLT, Int.reduceLE, Int.reduceToNat, iA]
    refine run_seq ?_
    refine run_regS [1, 2, 5, 7, 8, 17] (by decide) (fun F hF => ?_)
    simp only [go_sem, reduceIte, reduceCtorEq, Nat.reduceLT, Nat.reduceLeDiff, Nat.reduceEqDiff, Nat.reduceAdd, Nat.reduceSub, Nat.reduceMul, Int.reduceEq, Int.reduceLT, Int.reduceLE, Int.reduceToNat, hx, List.getElem?_map, Option.map_some, Int.toNat_natCast, Int.natCast_nonneg]
    refine hF _ ?_; clear hF F
    simp only [go_sem, reduceIte, reduceCtorEq, Nat.reduceLT, Nat.reduceLeDiff, Nat.reduceEqDiff, Nat.reduceAdd, Nat.reduceSub, Nat.reduceMul, Int.reduceEq, Int.reduceLT, Int.reduceLE, Int.reduceToNat, hx, List.getElem?_map, Option.map_some, Int.toNat_natCast, Int.natCast_nonneg]
    refine run_condA (by simp only [evL, evC, tg, reduceIte, Nat.reduceEqDiff]; rfl) (fun h17 => ?_) (fun h17 => ?_)
    · simp only [decide_eq_true_eq, decide_eq_false_iff_not] at h17
      refine run_seq ?_
      refine run_regS [4] (by decide) (fun F hF => ?_)
      simp only [go_sem, reduceIte, reduceCtorEq, Nat.reduceLT, Nat.reduceLeDiff, Nat.reduceEqDiff, Nat.reduceAdd, Nat.reduceSub, Nat.reduceMul, Int.reduceEq, Int.reduceLT, Int.reduceLE, Int.reduceToNat]
      refine hF _ ?_; clear hF F
      simp only [go_sem, reduceIte, reduceCtorEq, Nat.reduceLT, Nat.reduceLeDiff, Nat.reduceEqDiff, Nat.reduceAdd, Nat.reduceSub, Nat.reduceMul, Int.reduceEq, Int.reduceLT, Int.reduceLE, Int.reduceToNat]
      refine run_ret ?_
      refine fin_ofF (.inr rfl) [] rfl ?_ (by first | rfl | rfl | simp only [AV.clo, cloL, encV_clo, Bool.and_true, iA, bA])
      try simp only [go_sem, reduceIte, reduceCtorEq, Nat.reduceLT, Nat.reduceLeDiff, Nat.reduceEqDiff, Nat.reduceAdd, Nat.reduceSub, Nat.reduceMul, Int.reduceEq, Int.reduceLT, Int.reduceLE, Int.reduceToNat, AS.den, resV_one, resV_two, resV_three, clA_nil]
      first
      | exact Le.of_eq (iA_congr (by unfold JV.place; rw [placeL_some s _ _ _ i (by omega) (by rw [hx, h17]) hi.2]; simp))
      | exact Le.of_eq (iA_congr (by unfold JV.place; rw [placeL_none s _ _ _ (fun k hk => hi.2 k (by omega))]))
    · simp only [decide_eq_true_eq, decide_eq_false_iff_not] at h17
      refine run_skip ?_
      refine run_blk ?_
      refine run_regS [1, 2, 7, 8] (by decide) (fun F hF => ?_)
      simp only [go_sem, reduceIte, reduceCtorEq, Nat.reduceLT, Nat.reduceLeDiff, Nat.reduceEqDiff, Nat.reduceAdd, Nat.reduceSub, Nat.reduceMul, Int.reduceEq, Int.reduceLT, Int.reduceLE, Int.reduceToNat, iA]
      refine hF _ ?_; clear hF F
      simp only [go_sem, reduceIte, reduceCtorEq, Nat.reduceLT, Nat.reduceLeDiff, Nat.reduceEqDiff, Nat.reduceAdd, Nat.reduceSub, Nat.reduceMul, Int.reduceEq, Int.reduceLT, Int.reduceLE, Int.reduceToNat, iA]
      refine run_chk ?_
      exact ⟨i + 1, ⟨by omega, fun k hk => by
        rcases Nat.lt_or_ge k i with h | h
        · exact hi.2 k h
        · have : k = i := by omega
          subst this; rw [hx]; simpa using h17⟩, by omega, Sub.of_eq (by rw [Go.IntWalk.i64_in _ (by have := j.mem_names; omega)]; rfl)⟩
  · simp only [decide_eq_true_eq, decide_eq_false_iff_not] at h9
    refine run_exit (k' := _) rfl ?_
    refine run_seq ?_
    refine run_regS [4] (by decide) (fun F hF => ?_)
    simp only [go_sem, reduceIte, reduceCtorEq, Nat.reduceLT, Nat.reduceLeDiff, Nat.reduceEqDiff, Nat.reduceAdd, Nat.reduceSub, Nat.reduceMul, Int.reduceEq, Int.reduceLT, Int.reduceLE, Int.reduceToNat]
    refine hF _ ?_; clear hF F
    simp only [go_sem, reduceIte, reduceCtorEq, Nat.reduceLT, Nat.reduceLeDiff, Nat.reduceEqDiff, Nat.reduceAdd, Nat.reduceSub, Nat.reduceMul, Int.reduceEq, Int.reduceLT, Int.reduceLE, Int.reduceToNat]
    refine run_ret ?_
    refine fin_ofF (.inr rfl) [] rfl ?_ (by first | rfl | rfl | simp only [AV.clo, cloL, encV_clo, Bool.and_true, iA, bA])
    try simp only [go_sem, reduceIte, reduceCtorEq, Nat.reduceLT, Nat.reduceLeDiff, Nat.reduceEqDiff, Nat.reduceAdd, Nat.reduceSub, Nat.reduceMul, Int.reduceEq, Int.reduceLT, Int.reduceLE, Int.reduceToNat, AS.den, resV_one, resV_two, resV_three, clA_nil]
    first
    | exact Le.of_eq (iA_congr (by unfold JV.place; rw [placeL_some s _ _ _ i (by omega) (by rw [hx, h17]) hi.2]; simp))
    | exact Le.of_eq (iA_congr (by unfold JV.place; rw [placeL_none s _ _ _ (fun k hk => hi.2 k (by omega))]))
end Go.Ab

