/- What is proved: contracts of functions of this translation, walked; their plain meaning. No condition beyond those that each theorem names. -/
import Derived.Test.YtjpaecoehajfdaaDoorKl2
set_option linter.all false
namespace Go.Ab
open Go Go.Proofs

set_option maxRecDepth 4000
set_option maxHeartbeats 1000000


theorem charV_cons (c : UInt8) (s : List UInt8) : charV (c :: s) = if (c.toNat : Int) < 128 then 1 else if 194 ≤ (c.toNat : Int) ∧ (c.toNat : Int) ≤ 223 then tailC (c :: s) 1 1 128 191
    else if 224 ≤ (c.toNat : Int) ∧ (c.toNat : Int) ≤ 239 then tailC (c :: s) 2 1 (if (c.toNat : Int) = 224 then 160 else 128) (if (c.toNat : Int) = 237 then 159 else 191)
    else if 240 ≤ (c.toNat : Int) ∧ (c.toNat : Int) ≤ 244 then tailC (c :: s) 3 1 (if (c.toNat : Int) = 240 then 144 else 128) (if (c.toNat : Int) = 244 then 143 else 191) else 0 := by
  rw [charV, if_neg (by simp)]; rfl
theorem tailC_end (s : List UInt8) (k i : Nat) (lo hi : Int) (h : i = s.length) : tailC s (k + 1) i lo hi = -1 := by rw [tailC, if_pos h]
theorem tailC_out {s : List UInt8} {k i : Nat} {lo hi : Int} {x : UInt8} (hx : s[i]? = some x) (h : (x.toNat : Int) < lo ∨ hi < (x.toNat : Int)) : tailC s (k + 1) i lo hi = 0 := by
  have := (List.getElem?_eq_some_iff.1 hx).1
  rw [tailC, if_neg (by omega), hx, Option.getD_some, if_pos h]
theorem tailC_on {s : List UInt8} {k i : Nat} {lo hi : Int} {x : UInt8} (hx : s[i]? = some x) (h : ¬ ((x.toNat : Int) < lo ∨ hi < (x.toNat : Int))) : tailC s (k + 1) i lo hi = tailC s k (i + 1) 128 191 := by
  have := (List.getElem?_eq_some_iff.1 hx).1
  rw [tailC, if_neg (by omega), hx, Option.getD_some, if_neg h]

theorem char78_cons (W : World) (c : UInt8) (s : List UInt8) : Pure Tryd.prog W 78 [.str (c :: s)] (iA (charV (c :: s))) := by
  have hlen : (c :: s).length = s.length + 1 := rfl
  refine pure_of_run Tryd.func78 rfl (by rw [Tryd.ntmps78]; simp) ?_
  rw [Tryd.ntmps78, st0_den]
  refine run_seq ?_
  refine run_regS [0] (by decide) (fun F hF => ?_)
  simp only [go_sem, reduceIte, reduceCtorEq, Nat.reduceLT, Nat.reduceLeDiff, Nat.reduceEqDiff, Nat.reduceAdd, Nat.reduceSub, Nat.reduceMul, Int.reduceEq, Int.reduceLT, Int.reduceLE, Int.reduceToNat]
  refine hF _ ?_; clear hF F
  simp only [go_sem, reduceIte, reduceCtorEq, Nat.reduceLT, Nat.reduceLeDiff, Nat.reduceEqDiff, Nat.reduceAdd, Nat.reduceSub, Nat.reduceMul, Int.reduceEq, Int.reduceLT, Int.reduceLE, Int.reduceToNat]
  refine run_seq ?_
  refine run_seq ?_
  refine run_regS [0, 9] (by decide) (fun F hF => ?_)
  simp only [go_sem, reduceIte, reduceCtorEq, Nat.reduceLT, Nat.reduceLeDiff, Nat.reduceEqDiff, Nat.reduceAdd, Nat.reduceSub, Nat.reduceMul, Int.reduceEq, Int.reduceLT, Int.reduceLE, Int.reduceToNat]
  refine hF _ ?_; clear hF F
  simp only [go_sem, reduceIte, reduceCtorEq, Nat.reduceLT, Nat.reduceLeDiff, Nat.reduceEqDiff, Nat.reduceAdd, Nat.reduceSub, Nat.reduceMul, Int.reduceEq, Int.reduceLT, Int.reduceLE, Int.reduceToNat]
  refine run_condA (by simp only [evL, evC, tg, reduceIte, Nat.reduceEqDiff]; rfl) (fun h9 => ?_) (fun h9 => ?_)
  · try simp only [decide_eq_true_eq, decide_eq_false_iff_not, Bool.not_eq_true', Bool.not_eq_false'] at h9
    first
    | exact absurd h9 (by decide)
    | (
      refine run_seq ?_
      refine run_regS [2] (by decide) (fun F hF => ?_)
      simp only [go_sem, reduceIte, reduceCtorEq, Nat.reduceLT, Nat.reduceLeDiff, Nat.reduceEqDiff, Nat.reduceAdd, Nat.reduceSub, Nat.reduceMul, Int.reduceEq, Int.reduceLT, Int.reduceLE, Int.reduceToNat]
      refine hF _ ?_; clear hF F
      simp only [go_sem, reduceIte, reduceCtorEq, Nat.reduceLT, Nat.reduceLeDiff, Nat.reduceEqDiff, Nat.reduceAdd, Nat.reduceSub, Nat.reduceMul, Int.reduceEq, Int.reduceLT, Int.reduceLE, Int.reduceToNat]
      refine run_ret ?_
      refine fin_ofF (.inr rfl) [] rfl ?_ (by first | rfl | rfl | simp only [AV.clo, cloL, encV_clo, Bool.and_true, iA, bA])
      try simp only [go_sem, reduceIte, reduceCtorEq, Nat.reduceLT, Nat.reduceLeDiff, Nat.reduceEqDiff, Nat.reduceAdd, Nat.reduceSub, Nat.reduceMul, Int.reduceEq, Int.reduceLT, Int.reduceLE, Int.reduceToNat, AS.den, resV_one, resV_two, resV_three, clA_nil]
      refine Le.of_eq (iA_congr ?_)
      first
      | (rw [g4, hend])
      | (rw [g4, hout])
      | (rw [charV_cons, if_pos (by omega)])
      | (rw [charV_cons, if_neg (by omega), if_neg (by omega), if_neg (by omega), if_neg (by omega)])
      | (rw [g4, show k + 1 - i = 0 by omega, tailC]; omega)
      )
  · try simp only [decide_eq_true_eq, decide_eq_false_iff_not, Bool.not_eq_true', Bool.not_eq_false'] at h9
    first
    | exact absurd h9 (by decide)
    | (
      refine run_skip ?_
      refine run_seq ?_
      refine run_regS [0, 3] (by decide) (fun F hF => ?_)
      simp only [go_sem, reduceIte, reduceCtorEq, Nat.reduceLT, Nat.reduceLeDiff, Nat.reduceEqDiff, Nat.reduceAdd, Nat.reduceSub, Nat.reduceMul, Int.reduceEq, Int.reduceLT, Int.reduceLE, Int.reduceToNat, Int.toNat_zero, List.toList_toArray, Int.reduceToNat]
      refine hF _ ?_; clear hF F
      simp only [go_sem, reduceIte, reduceCtorEq, Nat.reduceLT, Nat.reduceLeDiff, Nat.reduceEqDiff, Nat.reduceAdd, Nat.reduceSub, Nat.reduceMul, Int.reduceEq, Int.reduceLT, Int.reduceLE, Int.reduceToNat, Int.toNat_zero, List.toList_toArray, Int.reduceToNat]
      refine run_seq ?_
      refine run_regS [0, 3] (by decide) (fun F hF => ?_)
      simp only [go_sem, reduceIte, reduceCtorEq, Nat.reduceLT, Nat.reduceLeDiff, Nat.reduceEqDiff, Nat.reduceAdd, Nat.reduceSub, Nat.reduceMul, Int.reduceEq, Int.reduceLT, Int.reduceLE, Int.reduceToNat]
      refine hF _ ?_; clear hF F
      simp only [go_sem, reduceIte, reduceCtorEq, Nat.reduceLT, Nat.reduceLeDiff, Nat.reduceEqDiff, Nat.reduceAdd, Nat.reduceSub, Nat.reduceMul, Int.reduceEq, Int.reduceLT, Int.reduceLE, Int.reduceToNat]
      refine run_seq ?_
      refine run_regS [0, 3, 5] (by decide) (fun F hF => ?_)
      simp only [go_sem, reduceIte, reduceCtorEq, Nat.reduceLT, Nat.reduceLeDiff, Nat.reduceEqDiff, Nat.reduceAdd, Nat.reduceSub, Nat.reduceMul, Int.reduceEq, Int.reduceLT, Int.reduceLE, Int.reduceToNat]
      refine hF _ ?_; clear hF F
      simp only [go_sem, reduceIte, reduceCtorEq, Nat.reduceLT, Nat.reduceLeDiff, Nat.reduceEqDiff, Nat.reduceAdd, Nat.reduceSub, Nat.reduceMul, Int.reduceEq, Int.reduceLT, Int.reduceLE, Int.reduceToNat]
      refine run_seq ?_
      refine run_regS [0, 3, 5, 6] (by decide) (fun F hF => ?_)
      simp only [go_sem, reduceIte, reduceCtorEq, Nat.reduceLT, Nat.reduceLeDiff, Nat.reduceEqDiff, Nat.reduceAdd, Nat.reduceSub, Nat.reduceMul, Int.reduceEq, Int.reduceLT, Int.reduceLE, Int.reduceToNat]
      refine hF _ ?_; clear hF F
      simp only [go_sem, reduceIte, reduceCtorEq, Nat.reduceLT, Nat.reduceLeDiff, Nat.reduceEqDiff, Nat.reduceAdd, Nat.reduceSub, Nat.reduceMul, Int.reduceEq, Int.reduceLT, Int.reduceLE, Int.reduceToNat]
      refine run_seq ?_
      refine run_cutA (fun q : Nat × Int × Int => ⟨[(0, .str (c :: s)), (4, iA (q.1 + 1 : Nat)), (5, .val (.int .u8 q.2.1)), (6, .val (.int .u8 q.2.2))], []⟩) (fun q => q.1 ≤ 3 ∧ charV (c :: s) = tailC (c :: s) q.1 1 q.2.1 q.2.2) ?_ (fun q hq => ?_)
      ·
        refine run_block ?_
        refine run_seq ?_
        refine run_regS [0, 3, 5, 6, 12] (by decide) (fun F hF => ?_)
        simp only [go_sem, reduceIte, reduceCtorEq, Nat.reduceLT, Nat.reduceLeDiff, Nat.reduceEqDiff, Nat.reduceAdd, Nat.reduceSub, Nat.reduceMul, Int.reduceEq, Int.reduceLT, Int.reduceLE, Int.reduceToNat]
        refine hF _ ?_; clear hF F
        simp only [go_sem, reduceIte, reduceCtorEq, Nat.reduceLT, Nat.reduceLeDiff, Nat.reduceEqDiff, Nat.reduceAdd, Nat.reduceSub, Nat.reduceMul, Int.reduceEq, Int.reduceLT, Int.reduceLE, Int.reduceToNat]
        refine run_condA (by simp only [evL, evC, tg, reduceIte, Nat.reduceEqDiff]; rfl) (fun h12 => ?_) (fun h12 => ?_)
        · try simp only [decide_eq_true_eq, decide_eq_false_iff_not, Bool.not_eq_true', Bool.not_eq_false'] at h12
          refine run_seq ?_
          refine run_regS [2] (by decide) (fun F hF => ?_)
          simp only [go_sem, reduceIte, reduceCtorEq, Nat.reduceLT, Nat.reduceLeDiff, Nat.reduceEqDiff, Nat.reduceAdd, Nat.reduceSub, Nat.reduceMul, Int.reduceEq, Int.reduceLT, Int.reduceLE, Int.reduceToNat]
          refine hF _ ?_; clear hF F
          simp only [go_sem, reduceIte, reduceCtorEq, Nat.reduceLT, Nat.reduceLeDiff, Nat.reduceEqDiff, Nat.reduceAdd, Nat.reduceSub, Nat.reduceMul, Int.reduceEq, Int.reduceLT, Int.reduceLE, Int.reduceToNat]
          refine run_ret ?_
          refine fin_ofF (.inr rfl) [] rfl ?_ (by first | rfl | rfl | simp only [AV.clo, cloL, encV_clo, Bool.and_true, iA, bA])
          try simp only [go_sem, reduceIte, reduceCtorEq, Nat.reduceLT, Nat.reduceLeDiff, Nat.reduceEqDiff, Nat.reduceAdd, Nat.reduceSub, Nat.reduceMul, Int.reduceEq, Int.reduceLT, Int.reduceLE, Int.reduceToNat, AS.den, resV_one, resV_two, resV_three, clA_nil]
          refine Le.of_eq (iA_congr ?_)
          first
          | (rw [g4, hend])
          | (rw [g4, hout])
          | (rw [charV_cons, if_pos (by omega)])
          | (rw [charV_cons, if_neg (by omega), if_neg (by omega), if_neg (by omega), if_neg (by omega)])
          | (rw [g4, show k + 1 - i = 0 by omega, tailC]; omega)
        · try simp only [decide_eq_true_eq, decide_eq_false_iff_not, Bool.not_eq_true', Bool.not_eq_false'] at h12
          refine run_seq ?_
          refine run_regJS [0, 3, 5, 6, 15] (fun b : Bool => ⟨[(0, .str (c :: s)), (3, .val (.int .u8 c.toNat)), (5, .val (.int .u8 128)), (6, .val (.int .u8 191)), (15, bA b)], []⟩) (fun b => b = true ↔ (194 ≤ (c.toNat : Int) ∧ (c.toNat : Int) ≤ 223)) (by decide) (fun F hF => ?_) (fun b15 hb15 => ?_)
          ·
            simp only [go_sem, reduceIte, reduceCtorEq, Nat.reduceLT, Nat.reduceLeDiff, Nat.reduceEqDiff, Nat.reduceAdd, Nat.reduceSub, Nat.reduceMul, Int.reduceEq, Int.reduceLT, Int.reduceLE, Int.reduceToNat]
            all_goals (try (refine aB_split (fun hg0 => ?_) (fun hg0 => ?_) <;> simp only [go_sem, reduceIte, reduceCtorEq, Nat.reduceLT, Nat.reduceLeDiff, Nat.reduceEqDiff, Nat.reduceAdd, Nat.reduceSub, Nat.reduceMul, Int.reduceEq, Int.reduceLT, Int.reduceLE, Int.reduceToNat, hg0]))
            all_goals (refine hF _ ?_; clear hF F; simp only [go_sem, reduceIte, reduceCtorEq, Nat.reduceLT, Nat.reduceLeDiff, Nat.reduceEqDiff, Nat.reduceAdd, Nat.reduceSub, Nat.reduceMul, Int.reduceEq, Int.reduceLT, Int.reduceLE, Int.reduceToNat])
            all_goals (refine ⟨_, ?_, rfl⟩; try simp only [decide_eq_true_eq, decide_eq_false_iff_not, Bool.not_eq_true', Bool.not_eq_false'] at *; first | omega | (simp only [decide_eq_true_eq]; omega) | (simp only [Bool.false_eq_true, false_iff]; omega))
          refine run_condA (by simp only [evL, evC, tg, reduceIte, Nat.reduceEqDiff]; rfl) (fun h15 => ?_) (fun h15 => ?_)
          · try simp only [decide_eq_true_eq, decide_eq_false_iff_not, Bool.not_eq_true', Bool.not_eq_false'] at h15
            have q15 := hb15.1 h15
            refine run_regS [0, 4, 5, 6] (by decide) (fun F hF => ?_)
            simp only [go_sem, reduceIte, reduceCtorEq, Nat.reduceLT, Nat.reduceLeDiff, Nat.reduceEqDiff, Nat.reduceAdd, Nat.reduceSub, Nat.reduceMul, Int.reduceEq, Int.reduceLT, Int.reduceLE, Int.reduceToNat]
            refine hF _ ?_; clear hF F
            simp only [go_sem, reduceIte, reduceCtorEq, Nat.reduceLT, Nat.reduceLeDiff, Nat.reduceEqDiff, Nat.reduceAdd, Nat.reduceSub, Nat.reduceMul, Int.reduceEq, Int.reduceLT, Int.reduceLE, Int.reduceToNat]
            refine run_blk ?_
            refine run_chk ?_
            try simp only [decide_eq_true_eq, decide_eq_false_iff_not, Bool.not_eq_true', Bool.not_eq_false'] at *
            first
            | exact ⟨(1, 128, 191), ⟨by decide, by rw [charV_cons, if_neg (by omega), if_pos (by omega)]⟩, (sub_prune [0, 4, 5, 6] _).trans (Sub.of_eq rfl)⟩
            | exact ⟨(2, 160, 159), ⟨by decide, by rw [charV_cons, if_neg (by omega), if_neg (by omega), if_pos (by omega), if_pos (by omega), if_pos (by omega)]⟩, (sub_prune [0, 4, 5, 6] _).trans (Sub.of_eq rfl)⟩
            | exact ⟨(2, 160, 191), ⟨by decide, by rw [charV_cons, if_neg (by omega), if_neg (by omega), if_pos (by omega), if_pos (by omega), if_neg (by omega)]⟩, (sub_prune [0, 4, 5, 6] _).trans (Sub.of_eq rfl)⟩
            | exact ⟨(2, 128, 159), ⟨by decide, by rw [charV_cons, if_neg (by omega), if_neg (by omega), if_pos (by omega), if_neg (by omega), if_pos (by omega)]⟩, (sub_prune [0, 4, 5, 6] _).trans (Sub.of_eq rfl)⟩
            | exact ⟨(2, 128, 191), ⟨by decide, by rw [charV_cons, if_neg (by omega), if_neg (by omega), if_pos (by omega), if_neg (by omega), if_neg (by omega)]⟩, (sub_prune [0, 4, 5, 6] _).trans (Sub.of_eq rfl)⟩
            | exact ⟨(3, 144, 143), ⟨by decide, by rw [charV_cons, if_neg (by omega), if_neg (by omega), if_neg (by omega), if_pos (by omega), if_pos (by omega), if_pos (by omega)]⟩, (sub_prune [0, 4, 5, 6] _).trans (Sub.of_eq rfl)⟩
            | exact ⟨(3, 144, 191), ⟨by decide, by rw [charV_cons, if_neg (by omega), if_neg (by omega), if_neg (by omega), if_pos (by omega), if_pos (by omega), if_neg (by omega)]⟩, (sub_prune [0, 4, 5, 6] _).trans (Sub.of_eq rfl)⟩
            | exact ⟨(3, 128, 143), ⟨by decide, by rw [charV_cons, if_neg (by omega), if_neg (by omega), if_neg (by omega), if_pos (by omega), if_neg (by omega), if_pos (by omega)]⟩, (sub_prune [0, 4, 5, 6] _).trans (Sub.of_eq rfl)⟩
            | exact ⟨(3, 128, 191), ⟨by decide, by rw [charV_cons, if_neg (by omega), if_neg (by omega), if_neg (by omega), if_pos (by omega), if_neg (by omega), if_neg (by omega)]⟩, (sub_prune [0, 4, 5, 6] _).trans (Sub.of_eq rfl)⟩
          · try simp only [decide_eq_true_eq, decide_eq_false_iff_not, Bool.not_eq_true', Bool.not_eq_false'] at h15
            have q15 : ¬ (194 ≤ (c.toNat : Int) ∧ (c.toNat : Int) ≤ 223) := fun e => by rw [hb15.2 e] at h15; cases h15
            refine run_seq ?_
            refine run_regJS [0, 3, 5, 6, 22] (fun b : Bool => ⟨[(0, .str (c :: s)), (3, .val (.int .u8 c.toNat)), (5, .val (.int .u8 128)), (6, .val (.int .u8 191)), (22, bA b)], []⟩) (fun b => b = true ↔ (224 ≤ (c.toNat : Int) ∧ (c.toNat : Int) ≤ 239)) (by decide) (fun F hF => ?_) (fun b22 hb22 => ?_)
            ·
              simp only [go_sem, reduceIte, reduceCtorEq, Nat.reduceLT, Nat.reduceLeDiff, Nat.reduceEqDiff, Nat.reduceAdd, Nat.reduceSub, Nat.reduceMul, Int.reduceEq, Int.reduceLT, Int.reduceLE, Int.reduceToNat]
              all_goals (try (refine aB_split (fun hg0 => ?_) (fun hg0 => ?_) <;> simp only [go_sem, reduceIte, reduceCtorEq, Nat.reduceLT, Nat.reduceLeDiff, Nat.reduceEqDiff, Nat.reduceAdd, Nat.reduceSub, Nat.reduceMul, Int.reduceEq, Int.reduceLT, Int.reduceLE, Int.reduceToNat, hg0]))
              all_goals (refine hF _ ?_; clear hF F; simp only [go_sem, reduceIte, reduceCtorEq, Nat.reduceLT, Nat.reduceLeDiff, Nat.reduceEqDiff, Nat.reduceAdd, Nat.reduceSub, Nat.reduceMul, Int.reduceEq, Int.reduceLT, Int.reduceLE, Int.reduceToNat])
              all_goals (refine ⟨_, ?_, rfl⟩; try simp only [decide_eq_true_eq, decide_eq_false_iff_not, Bool.not_eq_true', Bool.not_eq_false'] at *; first | omega | (simp only [decide_eq_true_eq]; omega) | (simp only [Bool.false_eq_true, false_iff]; omega))
            refine run_condA (by simp only [evL, evC, tg, reduceIte, Nat.reduceEqDiff]; rfl) (fun h22 => ?_) (fun h22 => ?_)
            · try simp only [decide_eq_true_eq, decide_eq_false_iff_not, Bool.not_eq_true', Bool.not_eq_false'] at h22
              have q22 := hb22.1 h22
              refine run_seq ?_
              refine run_regS [0, 3, 4, 5, 6] (by decide) (fun F hF => ?_)
              simp only [go_sem, reduceIte, reduceCtorEq, Nat.reduceLT, Nat.reduceLeDiff, Nat.reduceEqDiff, Nat.reduceAdd, Nat.reduceSub, Nat.reduceMul, Int.reduceEq, Int.reduceLT, Int.reduceLE, Int.reduceToNat]
              refine hF _ ?_; clear hF F
              simp only [go_sem, reduceIte, reduceCtorEq, Nat.reduceLT, Nat.reduceLeDiff, Nat.reduceEqDiff, Nat.reduceAdd, Nat.reduceSub, Nat.reduceMul, Int.reduceEq, Int.reduceLT, Int.reduceLE, Int.reduceToNat]
              refine run_seq ?_
              refine run_seq ?_
              refine run_regS [0, 3, 4, 5, 6, 30] (by decide) (fun F hF => ?_)
              simp only [go_sem, reduceIte, reduceCtorEq, Nat.reduceLT, Nat.reduceLeDiff, Nat.reduceEqDiff, Nat.reduceAdd, Nat.reduceSub, Nat.reduceMul, Int.reduceEq, Int.reduceLT, Int.reduceLE, Int.reduceToNat]
              refine hF _ ?_; clear hF F
              simp only [go_sem, reduceIte, reduceCtorEq, Nat.reduceLT, Nat.reduceLeDiff, Nat.reduceEqDiff, Nat.reduceAdd, Nat.reduceSub, Nat.reduceMul, Int.reduceEq, Int.reduceLT, Int.reduceLE, Int.reduceToNat]
              refine run_condA (by simp only [evL, evC, tg, reduceIte, Nat.reduceEqDiff]; rfl) (fun h30 => ?_) (fun h30 => ?_)
              · try simp only [decide_eq_true_eq, decide_eq_false_iff_not, Bool.not_eq_true', Bool.not_eq_false'] at h30
                refine run_regS [0, 3, 4, 5, 6] (by decide) (fun F hF => ?_)
                simp only [go_sem, reduceIte, reduceCtorEq, Nat.reduceLT, Nat.reduceLeDiff, Nat.reduceEqDiff, Nat.reduceAdd, Nat.reduceSub, Nat.reduceMul, Int.reduceEq, Int.reduceLT, Int.reduceLE, Int.reduceToNat]
                refine hF _ ?_; clear hF F
                simp only [go_sem, reduceIte, reduceCtorEq, Nat.reduceLT, Nat.reduceLeDiff, Nat.reduceEqDiff, Nat.reduceAdd, Nat.reduceSub, Nat.reduceMul, Int.reduceEq, Int.reduceLT, Int.reduceLE, Int.reduceToNat]
                refine run_seq ?_
                refine run_regS [0, 4, 5, 6, 32] (by decide) (fun F hF => ?_)
                simp only [go_sem, reduceIte, reduceCtorEq, Nat.reduceLT, Nat.reduceLeDiff, Nat.reduceEqDiff, Nat.reduceAdd, Nat.reduceSub, Nat.reduceMul, Int.reduceEq, Int.reduceLT, Int.reduceLE, Int.reduceToNat]
                refine hF _ ?_; clear hF F
                simp only [go_sem, reduceIte, reduceCtorEq, Nat.reduceLT, Nat.reduceLeDiff, Nat.reduceEqDiff, Nat.reduceAdd, Nat.reduceSub, Nat.reduceMul, Int.reduceEq, Int.reduceLT, Int.reduceLE, Int.reduceToNat]
                refine run_condA (by simp only [evL, evC, tg, reduceIte, Nat.reduceEqDiff]; rfl) (fun h32 => ?_) (fun h32 => ?_)
                · try simp only [decide_eq_true_eq, decide_eq_false_iff_not, Bool.not_eq_true', Bool.not_eq_false'] at h32
                  refine run_regS [0, 4, 5, 6] (by decide) (fun F hF => ?_)
                  simp only [go_sem, reduceIte, reduceCtorEq, Nat.reduceLT, Nat.reduceLeDiff, Nat.reduceEqDiff, Nat.reduceAdd, Nat.reduceSub, Nat.reduceMul, Int.reduceEq, Int.reduceLT, Int.reduceLE, Int.reduceToNat]
                  refine hF _ ?_; clear hF F
                  simp only [go_sem, reduceIte, reduceCtorEq, Nat.reduceLT, Nat.reduceLeDiff, Nat.reduceEqDiff, Nat.reduceAdd, Nat.reduceSub, Nat.reduceMul, Int.reduceEq, Int.reduceLT, Int.reduceLE, Int.reduceToNat]
                  refine run_blk ?_
                  refine run_chk ?_
                  try simp only [decide_eq_true_eq, decide_eq_false_iff_not, Bool.not_eq_true', Bool.not_eq_false'] at *
                  first
                  | exact ⟨(1, 128, 191), ⟨by decide, by rw [charV_cons, if_neg (by omega), if_pos (by omega)]⟩, (sub_prune [0, 4, 5, 6] _).trans (Sub.of_eq rfl)⟩
                  | exact ⟨(2, 160, 159), ⟨by decide, by rw [charV_cons, if_neg (by omega), if_neg (by omega), if_pos (by omega), if_pos (by omega), if_pos (by omega)]⟩, (sub_prune [0, 4, 5, 6] _).trans (Sub.of_eq rfl)⟩
                  | exact ⟨(2, 160, 191), ⟨by decide, by rw [charV_cons, if_neg (by omega), if_neg (by omega), if_pos (by omega), if_pos (by omega), if_neg (by omega)]⟩, (sub_prune [0, 4, 5, 6] _).trans (Sub.of_eq rfl)⟩
                  | exact ⟨(2, 128, 159), ⟨by decide, by rw [charV_cons, if_neg (by omega), if_neg (by omega), if_pos (by omega), if_neg (by omega), if_pos (by omega)]⟩, (sub_prune [0, 4, 5, 6] _).trans (Sub.of_eq rfl)⟩
                  | exact ⟨(2, 128, 191), ⟨by decide, by rw [charV_cons, if_neg (by omega), if_neg (by omega), if_pos (by omega), if_neg (by omega), if_neg (by omega)]⟩, (sub_prune [0, 4, 5, 6] _).trans (Sub.of_eq rfl)⟩
                  | exact ⟨(3, 144, 143), ⟨by decide, by rw [charV_cons, if_neg (by omega), if_neg (by omega), if_neg (by omega), if_pos (by omega), if_pos (by omega), if_pos (by omega)]⟩, (sub_prune [0, 4, 5, 6] _).trans (Sub.of_eq rfl)⟩
                  | exact ⟨(3, 144, 191), ⟨by decide, by rw [charV_cons, if_neg (by omega), if_neg (by omega), if_neg (by omega), if_pos (by omega), if_pos (by omega), if_neg (by omega)]⟩, (sub_prune [0, 4, 5, 6] _).trans (Sub.of_eq rfl)⟩
                  | exact ⟨(3, 128, 143), ⟨by decide, by rw [charV_cons, if_neg (by omega), if_neg (by omega), if_neg (by omega), if_pos (by omega), if_neg (by omega), if_pos (by omega)]⟩, (sub_prune [0, 4, 5, 6] _).trans (Sub.of_eq rfl)⟩
                  | exact ⟨(3, 128, 191), ⟨by decide, by rw [charV_cons, if_neg (by omega), if_neg (by omega), if_neg (by omega), if_pos (by omega), if_neg (by omega), if_neg (by omega)]⟩, (sub_prune [0, 4, 5, 6] _).trans (Sub.of_eq rfl)⟩
                · try simp only [decide_eq_true_eq, decide_eq_false_iff_not, Bool.not_eq_true', Bool.not_eq_false'] at h32
                  refine run_skip ?_
                  refine run_blk ?_
                  refine run_chk ?_
                  try simp only [decide_eq_true_eq, decide_eq_false_iff_not, Bool.not_eq_true', Bool.not_eq_false'] at *
                  first
                  | exact ⟨(1, 128, 191), ⟨by decide, by rw [charV_cons, if_neg (by omega), if_pos (by omega)]⟩, (sub_prune [0, 4, 5, 6] _).trans (Sub.of_eq rfl)⟩
                  | exact ⟨(2, 160, 159), ⟨by decide, by rw [charV_cons, if_neg (by omega), if_neg (by omega), if_pos (by omega), if_pos (by omega), if_pos (by omega)]⟩, (sub_prune [0, 4, 5, 6] _).trans (Sub.of_eq rfl)⟩
                  | exact ⟨(2, 160, 191), ⟨by decide, by rw [charV_cons, if_neg (by omega), if_neg (by omega), if_pos (by omega), if_pos (by omega), if_neg (by omega)]⟩, (sub_prune [0, 4, 5, 6] _).trans (Sub.of_eq rfl)⟩
                  | exact ⟨(2, 128, 159), ⟨by decide, by rw [charV_cons, if_neg (by omega), if_neg (by omega), if_pos (by omega), if_neg (by omega), if_pos (by omega)]⟩, (sub_prune [0, 4, 5, 6] _).trans (Sub.of_eq rfl)⟩
                  | exact ⟨(2, 128, 191), ⟨by decide, by rw [charV_cons, if_neg (by omega), if_neg (by omega), if_pos (by omega), if_neg (by omega), if_neg (by omega)]⟩, (sub_prune [0, 4, 5, 6] _).trans (Sub.of_eq rfl)⟩
                  | exact ⟨(3, 144, 143), ⟨by decide, by rw [charV_cons, if_neg (by omega), if_neg (by omega), if_neg (by omega), if_pos (by omega), if_pos (by omega), if_pos (by omega)]⟩, (sub_prune [0, 4, 5, 6] _).trans (Sub.of_eq rfl)⟩
                  | exact ⟨(3, 144, 191), ⟨by decide, by rw [charV_cons, if_neg (by omega), if_neg (by omega), if_neg (by omega), if_pos (by omega), if_pos (by omega), if_neg (by omega)]⟩, (sub_prune [0, 4, 5, 6] _).trans (Sub.of_eq rfl)⟩
                  | exact ⟨(3, 128, 143), ⟨by decide, by rw [charV_cons, if_neg (by omega), if_neg (by omega), if_neg (by omega), if_pos (by omega), if_neg (by omega), if_pos (by omega)]⟩, (sub_prune [0, 4, 5, 6] _).trans (Sub.of_eq rfl)⟩
                  | exact ⟨(3, 128, 191), ⟨by decide, by rw [charV_cons, if_neg (by omega), if_neg (by omega), if_neg (by omega), if_pos (by omega), if_neg (by omega), if_neg (by omega)]⟩, (sub_prune [0, 4, 5, 6] _).trans (Sub.of_eq rfl)⟩
              · try simp only [decide_eq_true_eq, decide_eq_false_iff_not, Bool.not_eq_true', Bool.not_eq_false'] at h30
                refine run_skip ?_
                refine run_seq ?_
                refine run_regS [0, 4, 5, 6, 32] (by decide) (fun F hF => ?_)
                simp only [go_sem, reduceIte, reduceCtorEq, Nat.reduceLT, Nat.reduceLeDiff, Nat.reduceEqDiff, Nat.reduceAdd, Nat.reduceSub, Nat.reduceMul, Int.reduceEq, Int.reduceLT, Int.reduceLE, Int.reduceToNat]
                refine hF _ ?_; clear hF F
                simp only [go_sem, reduceIte, reduceCtorEq, Nat.reduceLT, Nat.reduceLeDiff, Nat.reduceEqDiff, Nat.reduceAdd, Nat.reduceSub, Nat.reduceMul, Int.reduceEq, Int.reduceLT, Int.reduceLE, Int.reduceToNat]
                refine run_condA (by simp only [evL, evC, tg, reduceIte, Nat.reduceEqDiff]; rfl) (fun h32 => ?_) (fun h32 => ?_)
                · try simp only [decide_eq_true_eq, decide_eq_false_iff_not, Bool.not_eq_true', Bool.not_eq_false'] at h32
                  refine run_regS [0, 4, 5, 6] (by decide) (fun F hF => ?_)
                  simp only [go_sem, reduceIte, reduceCtorEq, Nat.reduceLT, Nat.reduceLeDiff, Nat.reduceEqDiff, Nat.reduceAdd, Nat.reduceSub, Nat.reduceMul, Int.reduceEq, Int.reduceLT, Int.reduceLE, Int.reduceToNat]
                  refine hF _ ?_; clear hF F
                  simp only [go_sem, reduceIte, reduceCtorEq, Nat.reduceLT, Nat.reduceLeDiff, Nat.reduceEqDiff, Nat.reduceAdd, Nat.reduceSub, Nat.reduceMul, Int.reduceEq, Int.reduceLT, Int.reduceLE, Int.reduceToNat]
                  refine run_blk ?_
                  refine run_chk ?_
                  try simp only [decide_eq_true_eq, decide_eq_false_iff_not, Bool.not_eq_true', Bool.not_eq_false'] at *
                  first
                  | exact ⟨(1, 128, 191), ⟨by decide, by rw [charV_cons, if_neg (by omega), if_pos (by omega)]⟩, (sub_prune [0, 4, 5, 6] _).trans (Sub.of_eq rfl)⟩
                  | exact ⟨(2, 160, 159), ⟨by decide, by rw [charV_cons, if_neg (by omega), if_neg (by omega), if_pos (by omega), if_pos (by omega), if_pos (by omega)]⟩, (sub_prune [0, 4, 5, 6] _).trans (Sub.of_eq rfl)⟩
                  | exact ⟨(2, 160, 191), ⟨by decide, by rw [charV_cons, if_neg (by omega), if_neg (by omega), if_pos (by omega), if_pos (by omega), if_neg (by omega)]⟩, (sub_prune [0, 4, 5, 6] _).trans (Sub.of_eq rfl)⟩
                  | exact ⟨(2, 128, 159), ⟨by decide, by rw [charV_cons, if_neg (by omega), if_neg (by omega), if_pos (by omega), if_neg (by omega), if_pos (by omega)]⟩, (sub_prune [0, 4, 5, 6] _).trans (Sub.of_eq rfl)⟩
                  | exact ⟨(2, 128, 191), ⟨by decide, by rw [charV_cons, if_neg (by omega), if_neg (by omega), if_pos (by omega), if_neg (by omega), if_neg (by omega)]⟩, (sub_prune [0, 4, 5, 6] _).trans (Sub.of_eq rfl)⟩
                  | exact ⟨(3, 144, 143), ⟨by decide, by rw [charV_cons, if_neg (by omega), if_neg (by omega), if_neg (by omega), if_pos (by omega), if_pos (by omega), if_pos (by omega)]⟩, (sub_prune [0, 4, 5, 6] _).trans (Sub.of_eq rfl)⟩
                  | exact ⟨(3, 144, 191), ⟨by decide, by rw [charV_cons, if_neg (by omega), if_neg (by omega), if_neg (by omega), if_pos (by omega), if_pos (by omega), if_neg (by omega)]⟩, (sub_prune [0, 4, 5, 6] _).trans (Sub.of_eq rfl)⟩
                  | exact ⟨(3, 128, 143), ⟨by decide, by rw [charV_cons, if_neg (by omega), if_neg (by omega), if_neg (by omega), if_pos (by omega), if_neg (by omega), if_pos (by omega)]⟩, (sub_prune [0, 4, 5, 6] _).trans (Sub.of_eq rfl)⟩
                  | exact ⟨(3, 128, 191), ⟨by decide, by rw [charV_cons, if_neg (by omega), if_neg (by omega), if_neg (by omega), if_pos (by omega), if_neg (by omega), if_neg (by omega)]⟩, (sub_prune [0, 4, 5, 6] _).trans (Sub.of_eq rfl)⟩
                · try simp only [decide_eq_true_eq, decide_eq_false_iff_not, Bool.not_eq_true', Bool.not_eq_false'] at h32
                  refine run_skip ?_
                  refine run_blk ?_
                  refine run_chk ?_
                  try simp only [decide_eq_true_eq, decide_eq_false_iff_not, Bool.not_eq_true', Bool.not_eq_false'] at *
                  first
                  | exact ⟨(1, 128, 191), ⟨by decide, by rw [charV_cons, if_neg (by omega), if_pos (by omega)]⟩, (sub_prune [0, 4, 5, 6] _).trans (Sub.of_eq rfl)⟩
                  | exact ⟨(2, 160, 159), ⟨by decide, by rw [charV_cons, if_neg (by omega), if_neg (by omega), if_pos (by omega), if_pos (by omega), if_pos (by omega)]⟩, (sub_prune [0, 4, 5, 6] _).trans (Sub.of_eq rfl)⟩
                  | exact ⟨(2, 160, 191), ⟨by decide, by rw [charV_cons, if_neg (by omega), if_neg (by omega), if_pos (by omega), if_pos (by omega), if_neg (by omega)]⟩, (sub_prune [0, 4, 5, 6] _).trans (Sub.of_eq rfl)⟩
                  | exact ⟨(2, 128, 159), ⟨by decide, by rw [charV_cons, if_neg (by omega), if_neg (by omega), if_pos (by omega), if_neg (by omega), if_pos (by omega)]⟩, (sub_prune [0, 4, 5, 6] _).trans (Sub.of_eq rfl)⟩
                  | exact ⟨(2, 128, 191), ⟨by decide, by rw [charV_cons, if_neg (by omega), if_neg (by omega), if_pos (by omega), if_neg (by omega), if_neg (by omega)]⟩, (sub_prune [0, 4, 5, 6] _).trans (Sub.of_eq rfl)⟩
                  | exact ⟨(3, 144, 143), ⟨by decide, by rw [charV_cons, if_neg (by omega), if_neg (by omega), if_neg (by omega), if_pos (by omega), if_pos (by omega), if_pos (by omega)]⟩, (sub_prune [0, 4, 5, 6] _).trans (Sub.of_eq rfl)⟩
                  | exact ⟨(3, 144, 191), ⟨by decide, by rw [charV_cons, if_neg (by omega), if_neg (by omega), if_neg (by omega), if_pos (by omega), if_pos (by omega), if_neg (by omega)]⟩, (sub_prune [0, 4, 5, 6] _).trans (Sub.of_eq rfl)⟩
                  | exact ⟨(3, 128, 143), ⟨by decide, by rw [charV_cons, if_neg (by omega), if_neg (by omega), if_neg (by omega), if_pos (by omega), if_neg (by omega), if_pos (by omega)]⟩, (sub_prune [0, 4, 5, 6] _).trans (Sub.of_eq rfl)⟩
                  | exact ⟨(3, 128, 191), ⟨by decide, by rw [charV_cons, if_neg (by omega), if_neg (by omega), if_neg (by omega), if_pos (by omega), if_neg (by omega), if_neg (by omega)]⟩, (sub_prune [0, 4, 5, 6] _).trans (Sub.of_eq rfl)⟩
            · try simp only [decide_eq_true_eq, decide_eq_false_iff_not, Bool.not_eq_true', Bool.not_eq_false'] at h22
              have q22 : ¬ (224 ≤ (c.toNat : Int) ∧ (c.toNat : Int) ≤ 239) := fun e => by rw [hb22.2 e] at h22; cases h22
              refine run_seq ?_
              refine run_regJS [0, 3, 5, 6, 33] (fun b : Bool => ⟨[(0, .str (c :: s)), (3, .val (.int .u8 c.toNat)), (5, .val (.int .u8 128)), (6, .val (.int .u8 191)), (33, bA b)], []⟩) (fun b => b = true ↔ (240 ≤ (c.toNat : Int) ∧ (c.toNat : Int) ≤ 244)) (by decide) (fun F hF => ?_) (fun b33 hb33 => ?_)
              ·
                simp only [go_sem, reduceIte, reduceCtorEq, Nat.reduceLT, Nat.reduceLeDiff, Nat.reduceEqDiff, Nat.reduceAdd, Nat.reduceSub, Nat.reduceMul, Int.reduceEq, Int.reduceLT, Int.reduceLE, Int.reduceToNat]
                all_goals (try (refine aB_split (fun hg0 => ?_) (fun hg0 => ?_) <;> simp only [go_sem, reduceIte, reduceCtorEq, Nat.reduceLT, Nat.reduceLeDiff, Nat.reduceEqDiff, Nat.reduceAdd, Nat.reduceSub, Nat.reduceMul, Int.reduceEq, Int.reduceLT, Int.reduceLE, Int.reduceToNat, hg0]))
                all_goals (refine hF _ ?_; clear hF F; simp only [go_sem, reduceIte, reduceCtorEq, Nat.reduceLT, Nat.reduceLeDiff, Nat.reduceEqDiff, Nat.reduceAdd, Nat.reduceSub, Nat.reduceMul, Int.reduceEq, Int.reduceLT, Int.reduceLE, Int.reduceToNat])
                all_goals (refine ⟨_, ?_, rfl⟩; try simp only [decide_eq_true_eq, decide_eq_false_iff_not, Bool.not_eq_true', Bool.not_eq_false'] at *; first | omega | (simp only [decide_eq_true_eq]; omega) | (simp only [Bool.false_eq_true, false_iff]; omega))
              refine run_condA (by simp only [evL, evC, tg, reduceIte, Nat.reduceEqDiff]; rfl) (fun h33 => ?_) (fun h33 => ?_)
              · try simp only [decide_eq_true_eq, decide_eq_false_iff_not, Bool.not_eq_true', Bool.not_eq_false'] at h33
                have q33 := hb33.1 h33
                refine run_seq ?_
                refine run_regS [0, 3, 4, 5, 6] (by decide) (fun F hF => ?_)
                simp only [go_sem, reduceIte, reduceCtorEq, Nat.reduceLT, Nat.reduceLeDiff, Nat.reduceEqDiff, Nat.reduceAdd, Nat.reduceSub, Nat.reduceMul, Int.reduceEq, Int.reduceLT, Int.reduceLE, Int.reduceToNat]
                refine hF _ ?_; clear hF F
                simp only [go_sem, reduceIte, reduceCtorEq, Nat.reduceLT, Nat.reduceLeDiff, Nat.reduceEqDiff, Nat.reduceAdd, Nat.reduceSub, Nat.reduceMul, Int.reduceEq, Int.reduceLT, Int.reduceLE, Int.reduceToNat]
                refine run_seq ?_
                refine run_seq ?_
                refine run_regS [0, 3, 4, 5, 6, 41] (by decide) (fun F hF => ?_)
                simp only [go_sem, reduceIte, reduceCtorEq, Nat.reduceLT, Nat.reduceLeDiff, Nat.reduceEqDiff, Nat.reduceAdd, Nat.reduceSub, Nat.reduceMul, Int.reduceEq, Int.reduceLT, Int.reduceLE, Int.reduceToNat]
                refine hF _ ?_; clear hF F
                simp only [go_sem, reduceIte, reduceCtorEq, Nat.reduceLT, Nat.reduceLeDiff, Nat.reduceEqDiff, Nat.reduceAdd, Nat.reduceSub, Nat.reduceMul, Int.reduceEq, Int.reduceLT, Int.reduceLE, Int.reduceToNat]
                refine run_condA (by simp only [evL, evC, tg, reduceIte, Nat.reduceEqDiff]; rfl) (fun h41 => ?_) (fun h41 => ?_)
                · try simp only [decide_eq_true_eq, decide_eq_false_iff_not, Bool.not_eq_true', Bool.not_eq_false'] at h41
                  refine run_regS [0, 3, 4, 5, 6] (by decide) (fun F hF => ?_)
                  simp only [go_sem, reduceIte, reduceCtorEq, Nat.reduceLT, Nat.reduceLeDiff, Nat.reduceEqDiff, Nat.reduceAdd, Nat.reduceSub, Nat.reduceMul, Int.reduceEq, Int.reduceLT, Int.reduceLE, Int.reduceToNat]
                  refine hF _ ?_; clear hF F
                  simp only [go_sem, reduceIte, reduceCtorEq, Nat.reduceLT, Nat.reduceLeDiff, Nat.reduceEqDiff, Nat.reduceAdd, Nat.reduceSub, Nat.reduceMul, Int.reduceEq, Int.reduceLT, Int.reduceLE, Int.reduceToNat]
                  refine run_seq ?_
                  refine run_regS [0, 4, 5, 6, 43] (by decide) (fun F hF => ?_)
                  simp only [go_sem, reduceIte, reduceCtorEq, Nat.reduceLT, Nat.reduceLeDiff, Nat.reduceEqDiff, Nat.reduceAdd, Nat.reduceSub, Nat.reduceMul, Int.reduceEq, Int.reduceLT, Int.reduceLE, Int.reduceToNat]
                  refine hF _ ?_; clear hF F
                  simp only [go_sem, reduceIte, reduceCtorEq, Nat.reduceLT, Nat.reduceLeDiff, Nat.reduceEqDiff, Nat.reduceAdd, Nat.reduceSub, Nat.reduceMul, Int.reduceEq, Int.reduceLT, Int.reduceLE, Int.reduceToNat]
                  refine run_condA (by simp only [evL, evC, tg, reduceIte, Nat.reduceEqDiff]; rfl) (fun h43 => ?_) (fun h43 => ?_)
                  · try simp only [decide_eq_true_eq, decide_eq_false_iff_not, Bool.not_eq_true', Bool.not_eq_false'] at h43
                    refine run_regS [0, 4, 5, 6] (by decide) (fun F hF => ?_)
                    simp only [go_sem, reduceIte, reduceCtorEq, Nat.reduceLT, Nat.reduceLeDiff, Nat.reduceEqDiff, Nat.reduceAdd, Nat.reduceSub, Nat.reduceMul, Int.reduceEq, Int.reduceLT, Int.reduceLE, Int.reduceToNat]
                    refine hF _ ?_; clear hF F
                    simp only [go_sem, reduceIte, reduceCtorEq, Nat.reduceLT, Nat.reduceLeDiff, Nat.reduceEqDiff, Nat.reduceAdd, Nat.reduceSub, Nat.reduceMul, Int.reduceEq, Int.reduceLT, Int.reduceLE, Int.reduceToNat]
                    refine run_blk ?_
                    refine run_chk ?_
                    try simp only [decide_eq_true_eq, decide_eq_false_iff_not, Bool.not_eq_true', Bool.not_eq_false'] at *
                    first
                    | exact ⟨(1, 128, 191), ⟨by decide, by rw [charV_cons, if_neg (by omega), if_pos (by omega)]⟩, (sub_prune [0, 4, 5, 6] _).trans (Sub.of_eq rfl)⟩
                    | exact ⟨(2, 160, 159), ⟨by decide, by rw [charV_cons, if_neg (by omega), if_neg (by omega), if_pos (by omega), if_pos (by omega), if_pos (by omega)]⟩, (sub_prune [0, 4, 5, 6] _).trans (Sub.of_eq rfl)⟩
                    | exact ⟨(2, 160, 191), ⟨by decide, by rw [charV_cons, if_neg (by omega), if_neg (by omega), if_pos (by omega), if_pos (by omega), if_neg (by omega)]⟩, (sub_prune [0, 4, 5, 6] _).trans (Sub.of_eq rfl)⟩
                    | exact ⟨(2, 128, 159), ⟨by decide, by rw [charV_cons, if_neg (by omega), if_neg (by omega), if_pos (by omega), if_neg (by omega), if_pos (by omega)]⟩, (sub_prune [0, 4, 5, 6] _).trans (Sub.of_eq rfl)⟩
                    | exact ⟨(2, 128, 191), ⟨by decide, by rw [charV_cons, if_neg (by omega), if_neg (by omega), if_pos (by omega), if_neg (by omega), if_neg (by omega)]⟩, (sub_prune [0, 4, 5, 6] _).trans (Sub.of_eq rfl)⟩
                    | exact ⟨(3, 144, 143), ⟨by decide, by rw [charV_cons, if_neg (by omega), if_neg (by omega), if_neg (by omega), if_pos (by omega), if_pos (by omega), if_pos (by omega)]⟩, (sub_prune [0, 4, 5, 6] _).trans (Sub.of_eq rfl)⟩
                    | exact ⟨(3, 144, 191), ⟨by decide, by rw [charV_cons, if_neg (by omega), if_neg (by omega), if_neg (by omega), if_pos (by omega), if_pos (by omega), if_neg (by omega)]⟩, (sub_prune [0, 4, 5, 6] _).trans (Sub.of_eq rfl)⟩
                    | exact ⟨(3, 128, 143), ⟨by decide, by rw [charV_cons, if_neg (by omega), if_neg (by omega), if_neg (by omega), if_pos (by omega), if_neg (by omega), if_pos (by omega)]⟩, (sub_prune [0, 4, 5, 6] _).trans (Sub.of_eq rfl)⟩
                    | exact ⟨(3, 128, 191), ⟨by decide, by rw [charV_cons, if_neg (by omega), if_neg (by omega), if_neg (by omega), if_pos (by omega), if_neg (by omega), if_neg (by omega)]⟩, (sub_prune [0, 4, 5, 6] _).trans (Sub.of_eq rfl)⟩
                  · try simp only [decide_eq_true_eq, decide_eq_false_iff_not, Bool.not_eq_true', Bool.not_eq_false'] at h43
                    refine run_skip ?_
                    refine run_blk ?_
                    refine run_chk ?_
                    try simp only [decide_eq_true_eq, decide_eq_false_iff_not, Bool.not_eq_true', Bool.not_eq_false'] at *
                    first
                    | exact ⟨(1, 128, 191), ⟨by decide, by rw [charV_cons, if_neg (by omega), if_pos (by omega)]⟩, (sub_prune [0, 4, 5, 6] _).trans (Sub.of_eq rfl)⟩
                    | exact ⟨(2, 160, 159), ⟨by decide, by rw [charV_cons, if_neg (by omega), if_neg (by omega), if_pos (by omega), if_pos (by omega), if_pos (by omega)]⟩, (sub_prune [0, 4, 5, 6] _).trans (Sub.of_eq rfl)⟩
                    | exact ⟨(2, 160, 191), ⟨by decide, by rw [charV_cons, if_neg (by omega), if_neg (by omega), if_pos (by omega), if_pos (by omega), if_neg (by omega)]⟩, (sub_prune [0, 4, 5, 6] _).trans (Sub.of_eq rfl)⟩
                    | exact ⟨(2, 128, 159), ⟨by decide, by rw [charV_cons, if_neg (by omega), if_neg (by omega), if_pos (by omega), if_neg (by omega), if_pos (by omega)]⟩, (sub_prune [0, 4, 5, 6] _).trans (Sub.of_eq rfl)⟩
                    | exact ⟨(2, 128, 191), ⟨by decide, by rw [charV_cons, if_neg (by omega), if_neg (by omega), if_pos (by omega), if_neg (by omega), if_neg (by omega)]⟩, (sub_prune [0, 4, 5, 6] _).trans (Sub.of_eq rfl)⟩
                    | exact ⟨(3, 144, 143), ⟨by decide, by rw [charV_cons, if_neg (by omega), if_neg (by omega), if_neg (by omega), if_pos (by omega), if_pos (by omega), if_pos (by omega)]⟩, (sub_prune [0, 4, 5, 6] _).trans (Sub.of_eq rfl)⟩
                    | exact ⟨(3, 144, 191), ⟨by decide, by rw [charV_cons, if_neg (by omega), if_neg (by omega), if_neg (by omega), if_pos (by omega), if_pos (by omega), if_neg (by omega)]⟩, (sub_prune [0, 4, 5, 6] _).trans (Sub.of_eq rfl)⟩
                    | exact ⟨(3, 128, 143), ⟨by decide, by rw [charV_cons, if_neg (by omega), if_neg (by omega), if_neg (by omega), if_pos (by omega), if_neg (by omega), if_pos (by omega)]⟩, (sub_prune [0, 4, 5, 6] _).trans (Sub.of_eq rfl)⟩
                    | exact ⟨(3, 128, 191), ⟨by decide, by rw [charV_cons, if_neg (by omega), if_neg (by omega), if_neg (by omega), if_pos (by omega), if_neg (by omega), if_neg (by omega)]⟩, (sub_prune [0, 4, 5, 6] _).trans (Sub.of_eq rfl)⟩
                · try simp only [decide_eq_true_eq, decide_eq_false_iff_not, Bool.not_eq_true', Bool.not_eq_false'] at h41
                  refine run_skip ?_
                  refine run_seq ?_
                  refine run_regS [0, 4, 5, 6, 43] (by decide) (fun F hF => ?_)
                  simp only [go_sem, reduceIte, reduceCtorEq, Nat.reduceLT, Nat.reduceLeDiff, Nat.reduceEqDiff, Nat.reduceAdd, Nat.reduceSub, Nat.reduceMul, Int.reduceEq, Int.reduceLT, Int.reduceLE, Int.reduceToNat]
                  refine hF _ ?_; clear hF F
                  simp only [go_sem, reduceIte, reduceCtorEq, Nat.reduceLT, Nat.reduceLeDiff, Nat.reduceEqDiff, Nat.reduceAdd, Nat.reduceSub, Nat.reduceMul, Int.reduceEq, Int.reduceLT, Int.reduceLE, Int.reduceToNat]
                  refine run_condA (by simp only [evL, evC, tg, reduceIte, Nat.reduceEqDiff]; rfl) (fun h43 => ?_) (fun h43 => ?_)
                  · try simp only [decide_eq_true_eq, decide_eq_false_iff_not, Bool.not_eq_true', Bool.not_eq_false'] at h43
                    refine run_regS [0, 4, 5, 6] (by decide) (fun F hF => ?_)
                    simp only [go_sem, reduceIte, reduceCtorEq, Nat.reduceLT, Nat.reduceLeDiff, Nat.reduceEqDiff, Nat.reduceAdd, Nat.reduceSub, Nat.reduceMul, Int.reduceEq, Int.reduceLT, Int.reduceLE, Int.reduceToNat]
                    refine hF _ ?_; clear hF F
                    simp only [go_sem, reduceIte, reduceCtorEq, Nat.reduceLT, Nat.reduceLeDiff, Nat.reduceEqDiff, Nat.reduceAdd, Nat.reduceSub, Nat.reduceMul, Int.reduceEq, Int.reduceLT, Int.reduceLE, Int.reduceToNat]
                    refine run_blk ?_
                    refine run_chk ?_
                    try simp only [decide_eq_true_eq, decide_eq_false_iff_not, Bool.not_eq_true', Bool.not_eq_false'] at *
                    first
                    | exact ⟨(1, 128, 191), ⟨by decide, by rw [charV_cons, if_neg (by omega), if_pos (by omega)]⟩, (sub_prune [0, 4, 5, 6] _).trans (Sub.of_eq rfl)⟩
                    | exact ⟨(2, 160, 159), ⟨by decide, by rw [charV_cons, if_neg (by omega), if_neg (by omega), if_pos (by omega), if_pos (by omega), if_pos (by omega)]⟩, (sub_prune [0, 4, 5, 6] _).trans (Sub.of_eq rfl)⟩
                    | exact ⟨(2, 160, 191), ⟨by decide, by rw [charV_cons, if_neg (by omega), if_neg (by omega), if_pos (by omega), if_pos (by omega), if_neg (by omega)]⟩, (sub_prune [0, 4, 5, 6] _).trans (Sub.of_eq rfl)⟩
                    | exact ⟨(2, 128, 159), ⟨by decide, by rw [charV_cons, if_neg (by omega), if_neg (by omega), if_pos (by omega), if_neg (by omega), if_pos (by omega)]⟩, (sub_prune [0, 4, 5, 6] _).trans (Sub.of_eq rfl)⟩
                    | exact ⟨(2, 128, 191), ⟨by decide, by rw [charV_cons, if_neg (by omega), if_neg (by omega), if_pos (by omega), if_neg (by omega), if_neg (by omega)]⟩, (sub_prune [0, 4, 5, 6] _).trans (Sub.of_eq rfl)⟩
                    | exact ⟨(3, 144, 143), ⟨by decide, by rw [charV_cons, if_neg (by omega), if_neg (by omega), if_neg (by omega), if_pos (by omega), if_pos (by omega), if_pos (by omega)]⟩, (sub_prune [0, 4, 5, 6] _).trans (Sub.of_eq rfl)⟩
                    | exact ⟨(3, 144, 191), ⟨by decide, by rw [charV_cons, if_neg (by omega), if_neg (by omega), if_neg (by omega), if_pos (by omega), if_pos (by omega), if_neg (by omega)]⟩, (sub_prune [0, 4, 5, 6] _).trans (Sub.of_eq rfl)⟩
                    | exact ⟨(3, 128, 143), ⟨by decide, by rw [charV_cons, if_neg (by omega), if_neg (by omega), if_neg (by omega), if_pos (by omega), if_neg (by omega), if_pos (by omega)]⟩, (sub_prune [0, 4, 5, 6] _).trans (Sub.of_eq rfl)⟩
                    | exact ⟨(3, 128, 191), ⟨by decide, by rw [charV_cons, if_neg (by omega), if_neg (by omega), if_neg (by omega), if_pos (by omega), if_neg (by omega), if_neg (by omega)]⟩, (sub_prune [0, 4, 5, 6] _).trans (Sub.of_eq rfl)⟩
                  · try simp only [decide_eq_true_eq, decide_eq_false_iff_not, Bool.not_eq_true', Bool.not_eq_false'] at h43
                    refine run_skip ?_
                    refine run_blk ?_
                    refine run_chk ?_
                    try simp only [decide_eq_true_eq, decide_eq_false_iff_not, Bool.not_eq_true', Bool.not_eq_false'] at *
                    first
                    | exact ⟨(1, 128, 191), ⟨by decide, by rw [charV_cons, if_neg (by omega), if_pos (by omega)]⟩, (sub_prune [0, 4, 5, 6] _).trans (Sub.of_eq rfl)⟩
                    | exact ⟨(2, 160, 159), ⟨by decide, by rw [charV_cons, if_neg (by omega), if_neg (by omega), if_pos (by omega), if_pos (by omega), if_pos (by omega)]⟩, (sub_prune [0, 4, 5, 6] _).trans (Sub.of_eq rfl)⟩
                    | exact ⟨(2, 160, 191), ⟨by decide, by rw [charV_cons, if_neg (by omega), if_neg (by omega), if_pos (by omega), if_pos (by omega), if_neg (by omega)]⟩, (sub_prune [0, 4, 5, 6] _).trans (Sub.of_eq rfl)⟩
                    | exact ⟨(2, 128, 159), ⟨by decide, by rw [charV_cons, if_neg (by omega), if_neg (by omega), if_pos (by omega), if_neg (by omega), if_pos (by omega)]⟩, (sub_prune [0, 4, 5, 6] _).trans (Sub.of_eq rfl)⟩
                    | exact ⟨(2, 128, 191), ⟨by decide, by rw [charV_cons, if_neg (by omega), if_neg (by omega), if_pos (by omega), if_neg (by omega), if_neg (by omega)]⟩, (sub_prune [0, 4, 5, 6] _).trans (Sub.of_eq rfl)⟩
                    | exact ⟨(3, 144, 143), ⟨by decide, by rw [charV_cons, if_neg (by omega), if_neg (by omega), if_neg (by omega), if_pos (by omega), if_pos (by omega), if_pos (by omega)]⟩, (sub_prune [0, 4, 5, 6] _).trans (Sub.of_eq rfl)⟩
                    | exact ⟨(3, 144, 191), ⟨by decide, by rw [charV_cons, if_neg (by omega), if_neg (by omega), if_neg (by omega), if_pos (by omega), if_pos (by omega), if_neg (by omega)]⟩, (sub_prune [0, 4, 5, 6] _).trans (Sub.of_eq rfl)⟩
                    | exact ⟨(3, 128, 143), ⟨by decide, by rw [charV_cons, if_neg (by omega), if_neg (by omega), if_neg (by omega), if_pos (by omega), if_neg (by omega), if_pos (by omega)]⟩, (sub_prune [0, 4, 5, 6] _).trans (Sub.of_eq rfl)⟩
                    | exact ⟨(3, 128, 191), ⟨by decide, by rw [charV_cons, if_neg (by omega), if_neg (by omega), if_neg (by omega), if_pos (by omega), if_neg (by omega), if_neg (by omega)]⟩, (sub_prune [0, 4, 5, 6] _).trans (Sub.of_eq rfl)⟩
              · try simp only [decide_eq_true_eq, decide_eq_false_iff_not, Bool.not_eq_true', Bool.not_eq_false'] at h33
                have q33 : ¬ (240 ≤ (c.toNat : Int) ∧ (c.toNat : Int) ≤ 244) := fun e => by rw [hb33.2 e] at h33; cases h33
                refine run_seq ?_
                refine run_regS [2] (by decide) (fun F hF => ?_)
                simp only [go_sem, reduceIte, reduceCtorEq, Nat.reduceLT, Nat.reduceLeDiff, Nat.reduceEqDiff, Nat.reduceAdd, Nat.reduceSub, Nat.reduceMul, Int.reduceEq, Int.reduceLT, Int.reduceLE, Int.reduceToNat]
                refine hF _ ?_; clear hF F
                simp only [go_sem, reduceIte, reduceCtorEq, Nat.reduceLT, Nat.reduceLeDiff, Nat.reduceEqDiff, Nat.reduceAdd, Nat.reduceSub, Nat.reduceMul, Int.reduceEq, Int.reduceLT, Int.reduceLE, Int.reduceToNat]
                refine run_ret ?_
                refine fin_ofF (.inr rfl) [] rfl ?_ (by first | rfl | rfl | simp only [AV.clo, cloL, encV_clo, Bool.and_true, iA, bA])
                try simp only [go_sem, reduceIte, reduceCtorEq, Nat.reduceLT, Nat.reduceLeDiff, Nat.reduceEqDiff, Nat.reduceAdd, Nat.reduceSub, Nat.reduceMul, Int.reduceEq, Int.reduceLT, Int.reduceLE, Int.reduceToNat, AS.den, resV_one, resV_two, resV_three, clA_nil]
                refine Le.of_eq (iA_congr ?_)
                first
                | (rw [g4, hend])
                | (rw [g4, hout])
                | (rw [charV_cons, if_pos (by omega)])
                | (rw [charV_cons, if_neg (by omega), if_neg (by omega), if_neg (by omega), if_neg (by omega)])
                | (rw [g4, show k + 1 - i = 0 by omega, tailC]; omega)
      refine run_seq ?_
      refine run_seq ?_
      refine run_regS [0, 4, 5, 6, 7] (by decide) (fun F hF => ?_)
      simp only [go_sem, reduceIte, reduceCtorEq, Nat.reduceLT, Nat.reduceLeDiff, Nat.reduceEqDiff, Nat.reduceAdd, Nat.reduceSub, Nat.reduceMul, Int.reduceEq, Int.reduceLT, Int.reduceLE, Int.reduceToNat]
      refine hF _ ?_; clear hF F
      simp only [go_sem, reduceIte, reduceCtorEq, Nat.reduceLT, Nat.reduceLeDiff, Nat.reduceEqDiff, Nat.reduceAdd, Nat.reduceSub, Nat.reduceMul, Int.reduceEq, Int.reduceLT, Int.reduceLE, Int.reduceToNat]
      refine run_block ?_
      obtain ⟨k, lo0, hi0⟩ := q
      obtain ⟨hk3, hq⟩ := hq
      simp only at hk3 hq
      refine run_loopA (fun j : Nat × Int × Int => ⟨[(0, .str (c :: s)), (4, iA (k + 1 : Nat)), (5, .val (.int .u8 j.2.1)), (6, .val (.int .u8 j.2.2)), (7, iA j.1)], []⟩) (fun j => 1 ≤ j.1 ∧ j.1 ≤ k + 1 ∧ j.1 ≤ (c :: s).length ∧ charV (c :: s) = tailC (c :: s) (k + 1 - j.1) j.1 j.2.1 j.2.2) (fun j => k + 1 - j.1) (1, lo0, hi0) (Sub.of_eq rfl) ⟨by simp, by simp, by simp, by rw [hq]; rfl⟩ ?_
      rintro ⟨i, lo, hi⟩ ⟨g1, g2, g3, g4⟩
      simp only at g1 g2 g3 g4
      refine run_seq ?_
      refine run_seq ?_
      refine run_regS [0, 4, 5, 6, 7, 46] (by decide) (fun F hF => ?_)
      simp only [go_sem, reduceIte, reduceCtorEq, Nat.reduceLT, Nat.reduceLeDiff, Nat.reduceEqDiff, Nat.reduceAdd, Nat.reduceSub, Nat.reduceMul, Int.reduceEq, Int.reduceLT, Int.reduceLE, Int.reduceToNat]
      refine hF _ ?_; clear hF F
      simp only [go_sem, reduceIte, reduceCtorEq, Nat.reduceLT, Nat.reduceLeDiff, Nat.reduceEqDiff, Nat.reduceAdd, Nat.reduceSub, Nat.reduceMul, Int.reduceEq, Int.reduceLT, Int.reduceLE, Int.reduceToNat]
      refine run_condA (by simp only [evL, evC, tg, reduceIte, Nat.reduceEqDiff]; rfl) (fun h46 => ?_) (fun h46 => ?_)
      · try simp only [decide_eq_true_eq, decide_eq_false_iff_not, Bool.not_eq_true', Bool.not_eq_false'] at h46
        refine run_skip ?_
        refine run_seq ?_
        refine run_block ?_
        refine run_seq ?_
        refine run_seq ?_
        refine run_regS [0, 4, 5, 6, 7, 52] (by decide) (fun F hF => ?_)
        simp only [go_sem, reduceIte, reduceCtorEq, Nat.reduceLT, Nat.reduceLeDiff, Nat.reduceEqDiff, Nat.reduceAdd, Nat.reduceSub, Nat.reduceMul, Int.reduceEq, Int.reduceLT, Int.reduceLE, Int.reduceToNat]
        refine hF _ ?_; clear hF F
        simp only [go_sem, reduceIte, reduceCtorEq, Nat.reduceLT, Nat.reduceLeDiff, Nat.reduceEqDiff, Nat.reduceAdd, Nat.reduceSub, Nat.reduceMul, Int.reduceEq, Int.reduceLT, Int.reduceLE, Int.reduceToNat]
        refine run_condA (by simp only [evL, evC, tg, reduceIte, Nat.reduceEqDiff]; rfl) (fun h52 => ?_) (fun h52 => ?_)
        · try simp only [decide_eq_true_eq, decide_eq_false_iff_not, Bool.not_eq_true', Bool.not_eq_false'] at h52
          have hend := tailC_end (c :: s) (k - i) i lo hi (by omega)
          rw [show k - i + 1 = k + 1 - i by omega] at hend
          refine run_seq ?_
          refine run_regS [2] (by decide) (fun F hF => ?_)
          simp only [go_sem, reduceIte, reduceCtorEq, Nat.reduceLT, Nat.reduceLeDiff, Nat.reduceEqDiff, Nat.reduceAdd, Nat.reduceSub, Nat.reduceMul, Int.reduceEq, Int.reduceLT, Int.reduceLE, Int.reduceToNat]
          refine hF _ ?_; clear hF F
          simp only [go_sem, reduceIte, reduceCtorEq, Nat.reduceLT, Nat.reduceLeDiff, Nat.reduceEqDiff, Nat.reduceAdd, Nat.reduceSub, Nat.reduceMul, Int.reduceEq, Int.reduceLT, Int.reduceLE, Int.reduceToNat]
          refine run_ret ?_
          refine fin_ofF (.inr rfl) [] rfl ?_ (by first | rfl | rfl | simp only [AV.clo, cloL, encV_clo, Bool.and_true, iA, bA])
          try simp only [go_sem, reduceIte, reduceCtorEq, Nat.reduceLT, Nat.reduceLeDiff, Nat.reduceEqDiff, Nat.reduceAdd, Nat.reduceSub, Nat.reduceMul, Int.reduceEq, Int.reduceLT, Int.reduceLE, Int.reduceToNat, AS.den, resV_one, resV_two, resV_three, clA_nil]
          refine Le.of_eq (iA_congr ?_)
          first
          | (rw [g4, hend])
          | (rw [g4, hout])
          | (rw [charV_cons, if_pos (by omega)])
          | (rw [charV_cons, if_neg (by omega), if_neg (by omega), if_neg (by omega), if_neg (by omega)])
          | (rw [g4, show k + 1 - i = 0 by omega, tailC]; omega)
        · try simp only [decide_eq_true_eq, decide_eq_false_iff_not, Bool.not_eq_true', Bool.not_eq_false'] at h52
          obtain ⟨x, hx⟩ := getOf (l := c :: s) (i := i) (by omega)
          refine run_skip ?_
          refine run_seq ?_
          refine run_seq ?_
          refine run_regJS [0, 4, 7, 64] (fun b : Bool => ⟨[(0, .str (c :: s)), (4, iA (k + 1 : Nat)), (7, iA i), (64, bA b)], []⟩) (fun b => b = true ↔ ((x.toNat : Int) < lo ∨ hi < (x.toNat : Int))) (by decide) (fun F hF => ?_) (fun b64 hb64 => ?_)
          ·
            simp only [go_sem, reduceIte, reduceCtorEq, Nat.reduceLT, Nat.reduceLeDiff, Nat.reduceEqDiff, Nat.reduceAdd, Nat.reduceSub, Nat.reduceMul, Int.reduceEq, Int.reduceLT, Int.reduceLE, Int.reduceToNat, hx, Int.toNat_natCast, Int.natCast_nonneg]
            all_goals (try (refine aB_split' (fun hg0 => ?_) (fun hg0 => ?_) <;> simp only [go_sem, reduceIte, reduceCtorEq, Nat.reduceLT, Nat.reduceLeDiff, Nat.reduceEqDiff, Nat.reduceAdd, Nat.reduceSub, Nat.reduceMul, Int.reduceEq, Int.reduceLT, Int.reduceLE, Int.reduceToNat, hx, Int.toNat_natCast, Int.natCast_nonneg, hg0]))
            all_goals (refine hF _ ?_; clear hF F; simp only [go_sem, reduceIte, reduceCtorEq, Nat.reduceLT, Nat.reduceLeDiff, Nat.reduceEqDiff, Nat.reduceAdd, Nat.reduceSub, Nat.reduceMul, Int.reduceEq, Int.reduceLT, Int.reduceLE, Int.reduceToNat, hx, Int.toNat_natCast, Int.natCast_nonneg])
            all_goals (refine ⟨_, ?_, rfl⟩; try simp only [decide_eq_true_eq, decide_eq_false_iff_not, Bool.not_eq_true', Bool.not_eq_false'] at *; first | omega | (simp only [decide_eq_true_eq]; omega) | (simp only [true_iff]; omega))
          refine run_condA (by simp only [evL, evC, tg, reduceIte, Nat.reduceEqDiff]; rfl) (fun h64 => ?_) (fun h64 => ?_)
          · try simp only [decide_eq_true_eq, decide_eq_false_iff_not, Bool.not_eq_true', Bool.not_eq_false'] at h64
            have hout := tailC_out (k := k - i) hx (hb64.1 h64)
            rw [show k - i + 1 = k + 1 - i by omega] at hout
            refine run_seq ?_
            refine run_regS [2] (by decide) (fun F hF => ?_)
            simp only [go_sem, reduceIte, reduceCtorEq, Nat.reduceLT, Nat.reduceLeDiff, Nat.reduceEqDiff, Nat.reduceAdd, Nat.reduceSub, Nat.reduceMul, Int.reduceEq, Int.reduceLT, Int.reduceLE, Int.reduceToNat]
            refine hF _ ?_; clear hF F
            simp only [go_sem, reduceIte, reduceCtorEq, Nat.reduceLT, Nat.reduceLeDiff, Nat.reduceEqDiff, Nat.reduceAdd, Nat.reduceSub, Nat.reduceMul, Int.reduceEq, Int.reduceLT, Int.reduceLE, Int.reduceToNat]
            refine run_ret ?_
            refine fin_ofF (.inr rfl) [] rfl ?_ (by first | rfl | rfl | simp only [AV.clo, cloL, encV_clo, Bool.and_true, iA, bA])
            try simp only [go_sem, reduceIte, reduceCtorEq, Nat.reduceLT, Nat.reduceLeDiff, Nat.reduceEqDiff, Nat.reduceAdd, Nat.reduceSub, Nat.reduceMul, Int.reduceEq, Int.reduceLT, Int.reduceLE, Int.reduceToNat, AS.den, resV_one, resV_two, resV_three, clA_nil]
            refine Le.of_eq (iA_congr ?_)
            first
            | (rw [g4, hend])
            | (rw [g4, hout])
            | (rw [charV_cons, if_pos (by omega)])
            | (rw [charV_cons, if_neg (by omega), if_neg (by omega), if_neg (by omega), if_neg (by omega)])
            | (rw [g4, show k + 1 - i = 0 by omega, tailC]; omega)
          · try simp only [decide_eq_true_eq, decide_eq_false_iff_not, Bool.not_eq_true', Bool.not_eq_false'] at h64
            have hon := tailC_on (k := k - i) hx (fun e => by rw [hb64.2 e] at h64; cases h64)
            rw [show k - i + 1 = k + 1 - i by omega] at hon
            refine run_skip ?_
            refine run_seq ?_
            refine run_regS [0, 4, 5, 7] (by decide) (fun F hF => ?_)
            simp only [go_sem, reduceIte, reduceCtorEq, Nat.reduceLT, Nat.reduceLeDiff, Nat.reduceEqDiff, Nat.reduceAdd, Nat.reduceSub, Nat.reduceMul, Int.reduceEq, Int.reduceLT, Int.reduceLE, Int.reduceToNat]
            refine hF _ ?_; clear hF F
            simp only [go_sem, reduceIte, reduceCtorEq, Nat.reduceLT, Nat.reduceLeDiff, Nat.reduceEqDiff, Nat.reduceAdd, Nat.reduceSub, Nat.reduceMul, Int.reduceEq, Int.reduceLT, Int.reduceLE, Int.reduceToNat]
            refine run_regS [0, 4, 5, 6, 7] (by decide) (fun F hF => ?_)
            simp only [go_sem, reduceIte, reduceCtorEq, Nat.reduceLT, Nat.reduceLeDiff, Nat.reduceEqDiff, Nat.reduceAdd, Nat.reduceSub, Nat.reduceMul, Int.reduceEq, Int.reduceLT, Int.reduceLE, Int.reduceToNat]
            refine hF _ ?_; clear hF F
            simp only [go_sem, reduceIte, reduceCtorEq, Nat.reduceLT, Nat.reduceLeDiff, Nat.reduceEqDiff, Nat.reduceAdd, Nat.reduceSub, Nat.reduceMul, Int.reduceEq, Int.reduceLT, Int.reduceLE, Int.reduceToNat]
            refine run_blk ?_
            refine run_regS [0, 4, 5, 6, 7] (by decide) (fun F hF => ?_)
            simp only [go_sem, reduceIte, reduceCtorEq, Nat.reduceLT, Nat.reduceLeDiff, Nat.reduceEqDiff, Nat.reduceAdd, Nat.reduceSub, Nat.reduceMul, Int.reduceEq, Int.reduceLT, Int.reduceLE, Int.reduceToNat]
            refine hF _ ?_; clear hF F
            simp only [go_sem, reduceIte, reduceCtorEq, Nat.reduceLT, Nat.reduceLeDiff, Nat.reduceEqDiff, Nat.reduceAdd, Nat.reduceSub, Nat.reduceMul, Int.reduceEq, Int.reduceLT, Int.reduceLE, Int.reduceToNat]
            refine run_chk ?_
            exact ⟨(i + 1, 128, 191), ⟨by simp, by simp only; omega, by simp only; omega, by simp only; rw [g4, hon, show k - i = k + 1 - (i + 1) by omega]⟩, by simp only; omega, Sub.of_eq (by rw [IntWalk.i64_in _ (by omega)]; rfl)⟩
      · try simp only [decide_eq_true_eq, decide_eq_false_iff_not, Bool.not_eq_true', Bool.not_eq_false'] at h46
        refine run_exit (k' := _) rfl ?_
        refine run_seq ?_
        refine run_regS [2] (by decide) (fun F hF => ?_)
        simp only [go_sem, reduceIte, reduceCtorEq, Nat.reduceLT, Nat.reduceLeDiff, Nat.reduceEqDiff, Nat.reduceAdd, Nat.reduceSub, Nat.reduceMul, Int.reduceEq, Int.reduceLT, Int.reduceLE, Int.reduceToNat]
        refine hF _ ?_; clear hF F
        simp only [go_sem, reduceIte, reduceCtorEq, Nat.reduceLT, Nat.reduceLeDiff, Nat.reduceEqDiff, Nat.reduceAdd, Nat.reduceSub, Nat.reduceMul, Int.reduceEq, Int.reduceLT, Int.reduceLE, Int.reduceToNat]
        refine run_ret ?_
        refine fin_ofF (.inr rfl) [] rfl ?_ (by first | rfl | rfl | simp only [AV.clo, cloL, encV_clo, Bool.and_true, iA, bA])
        try simp only [go_sem, reduceIte, reduceCtorEq, Nat.reduceLT, Nat.reduceLeDiff, Nat.reduceEqDiff, Nat.reduceAdd, Nat.reduceSub, Nat.reduceMul, Int.reduceEq, Int.reduceLT, Int.reduceLE, Int.reduceToNat, AS.den, resV_one, resV_two, resV_three, clA_nil]
        refine Le.of_eq (iA_congr ?_)
        first
        | (rw [g4, hend])
        | (rw [g4, hout])
        | (rw [charV_cons, if_pos (by omega)])
        | (rw [charV_cons, if_neg (by omega), if_neg (by omega), if_neg (by omega), if_neg (by omega)])
        | (rw [g4, show k + 1 - i = 0 by omega, tailC]; omega)
      )

theorem char78_nil (W : World)  : Pure Tryd.prog W 78 [.str []] (iA (charV [])) := by
  refine pure_of_run Tryd.func78 rfl (by rw [Tryd.ntmps78]; simp) ?_
  rw [Tryd.ntmps78, st0_den]
  refine run_seq ?_
  refine run_regS [0] (by decide) (fun F hF => ?_)
  simp only [go_sem, reduceIte, reduceCtorEq, Nat.reduceLT, Nat.reduceLeDiff, Nat.reduceEqDiff, Nat.reduceAdd, Nat.reduceSub, Nat.reduceMul, Int.reduceEq, Int.reduceLT, Int.reduceLE, Int.reduceToNat]
  refine hF _ ?_; clear hF F
  simp only [go_sem, reduceIte, reduceCtorEq, Nat.reduceLT, Nat.reduceLeDiff, Nat.reduceEqDiff, Nat.reduceAdd, Nat.reduceSub, Nat.reduceMul, Int.reduceEq, Int.reduceLT, Int.reduceLE, Int.reduceToNat]
  refine run_seq ?_
  refine run_seq ?_
  refine run_regS [0, 9] (by decide) (fun F hF => ?_)
  simp only [go_sem, reduceIte, reduceCtorEq, Nat.reduceLT, Nat.reduceLeDiff, Nat.reduceEqDiff, Nat.reduceAdd, Nat.reduceSub, Nat.reduceMul, Int.reduceEq, Int.reduceLT, Int.reduceLE, Int.reduceToNat]
  refine hF _ ?_; clear hF F
  simp only [go_sem, reduceIte, reduceCtorEq, Nat.reduceLT, Nat.reduceLeDiff, Nat.reduceEqDiff, Nat.reduceAdd, Nat.reduceSub, Nat.reduceMul, Int.reduceEq, Int.reduceLT, Int.reduceLE, Int.reduceToNat]
  refine run_condA (by simp only [evL, evC, tg, reduceIte, Nat.reduceEqDiff]; rfl) (fun h9 => ?_) (fun h9 => ?_)
  · try simp only [decide_eq_true_eq, decide_eq_false_iff_not, Bool.not_eq_true', Bool.not_eq_false'] at h9
    refine run_seq ?_
    refine run_regS [2] (by decide) (fun F hF => ?_)
    simp only [go_sem, reduceIte, reduceCtorEq, Nat.reduceLT, Nat.reduceLeDiff, Nat.reduceEqDiff, Nat.reduceAdd, Nat.reduceSub, Nat.reduceMul, Int.reduceEq, Int.reduceLT, Int.reduceLE, Int.reduceToNat]
    refine hF _ ?_; clear hF F
    simp only [go_sem, reduceIte, reduceCtorEq, Nat.reduceLT, Nat.reduceLeDiff, Nat.reduceEqDiff, Nat.reduceAdd, Nat.reduceSub, Nat.reduceMul, Int.reduceEq, Int.reduceLT, Int.reduceLE, Int.reduceToNat]
    refine run_ret ?_
    refine fin_ofF (.inr rfl) [] rfl ?_ (by first | rfl | rfl | simp only [AV.clo, cloL, encV_clo, Bool.and_true, iA, bA])
    try simp only [go_sem, reduceIte, reduceCtorEq, Nat.reduceLT, Nat.reduceLeDiff, Nat.reduceEqDiff, Nat.reduceAdd, Nat.reduceSub, Nat.reduceMul, Int.reduceEq, Int.reduceLT, Int.reduceLE, Int.reduceToNat, AS.den, resV_one, resV_two, resV_three, clA_nil]
    exact .refl _
  · try simp only [decide_eq_true_eq, decide_eq_false_iff_not, Bool.not_eq_true', Bool.not_eq_false'] at h9
    first | exact absurd trivial h9 | exact h9.elim | exact absurd h9 (by decide) | exact absurd rfl h9


theorem char78 (W : World) (s : List UInt8) : Pure Tryd.prog W 78 [.str s] (iA (charV s)) := by
  cases s with
  | nil => exact char78_nil W
  | cons c s => exact char78_cons W c s


theorem clean67 (W : World) (s : List UInt8) : Pure Tryd.prog W 67 [.str s] (bA (clB s)) := by
  refine pure_of_run Tryd.func67 rfl (by rw [Tryd.ntmps67]; simp) ?_
  rw [Tryd.ntmps67, st0_den]
  refine run_seq ?_
  refine run_regS [0] (by decide) (fun F hF => ?_)
  simp only [go_sem, reduceIte, reduceCtorEq, Nat.reduceLT, Nat.reduceLeDiff, Nat.reduceEqDiff, Nat.reduceAdd, Nat.reduceSub, Nat.reduceMul, Int.reduceEq, Int.reduceLT, Int.reduceLE, Int.reduceToNat]
  refine hF _ ?_; clear hF F
  simp only [go_sem, reduceIte, reduceCtorEq, Nat.reduceLT, Nat.reduceLeDiff, Nat.reduceEqDiff, Nat.reduceAdd, Nat.reduceSub, Nat.reduceMul, Int.reduceEq, Int.reduceLT, Int.reduceLE, Int.reduceToNat]
  refine run_seq ?_
  refine run_block ?_
  refine run_loopA (fun u : List UInt8 => ⟨[(0, .str u)], []⟩) (fun u => u.length ≤ s.length ∧ clB u = clB s) (fun u => u.length) s (Sub.of_eq rfl) ⟨Nat.le_refl _, rfl⟩ ?_
  rintro u ⟨hu, hq⟩
  refine run_seq ?_
  refine run_seq ?_
  refine run_regS [0, 5] (by decide) (fun F hF => ?_)
  simp only [go_sem, reduceIte, reduceCtorEq, Nat.reduceLT, Nat.reduceLeDiff, Nat.reduceEqDiff, Nat.reduceAdd, Nat.reduceSub, Nat.reduceMul, Int.reduceEq, Int.reduceLT, Int.reduceLE, Int.reduceToNat]
  refine hF _ ?_; clear hF F
  simp only [go_sem, reduceIte, reduceCtorEq, Nat.reduceLT, Nat.reduceLeDiff, Nat.reduceEqDiff, Nat.reduceAdd, Nat.reduceSub, Nat.reduceMul, Int.reduceEq, Int.reduceLT, Int.reduceLE, Int.reduceToNat]
  refine run_condA (by simp only [evL, evC, tg, reduceIte, Nat.reduceEqDiff]; rfl) (fun h5 => ?_) (fun h5 => ?_)
  · try simp only [decide_eq_true_eq, decide_eq_false_iff_not, Bool.not_eq_true', Bool.not_eq_false'] at h5
    refine run_skip ?_
    refine run_block ?_
    refine run_seq ?_
    refine run_regS [0, 3] (by decide) (fun F hF => ?_)
    simp only [go_sem, reduceIte, reduceCtorEq, Nat.reduceLT, Nat.reduceLeDiff, Nat.reduceEqDiff, Nat.reduceAdd, Nat.reduceSub, Nat.reduceMul, Int.reduceEq, Int.reduceLT, Int.reduceLE, Int.reduceToNat]
    refine aCall_flat0 (char78 W u) call78 (.cons (.refl _) .nil) (by first | rfl | simp only [cloL, encV_clo, AV.clo, Bool.and_true, iA, bA, lsA_clo]) (by rfl) ?_
    try simp only [go_sem, reduceIte, reduceCtorEq, Nat.reduceLT, Nat.reduceLeDiff, Nat.reduceEqDiff, Nat.reduceAdd, Nat.reduceSub, Nat.reduceMul, Int.reduceEq, Int.reduceLT, Int.reduceLE, Int.reduceToNat]
    refine hF _ ?_; clear hF F
    simp only [go_sem, reduceIte, reduceCtorEq, Nat.reduceLT, Nat.reduceLeDiff, Nat.reduceEqDiff, Nat.reduceAdd, Nat.reduceSub, Nat.reduceMul, Int.reduceEq, Int.reduceLT, Int.reduceLE, Int.reduceToNat]
    refine run_seq ?_
    refine run_seq ?_
    refine run_regS [0, 3, 9] (by decide) (fun F hF => ?_)
    simp only [go_sem, reduceIte, reduceCtorEq, Nat.reduceLT, Nat.reduceLeDiff, Nat.reduceEqDiff, Nat.reduceAdd, Nat.reduceSub, Nat.reduceMul, Int.reduceEq, Int.reduceLT, Int.reduceLE, Int.reduceToNat]
    refine hF _ ?_; clear hF F
    simp only [go_sem, reduceIte, reduceCtorEq, Nat.reduceLT, Nat.reduceLeDiff, Nat.reduceEqDiff, Nat.reduceAdd, Nat.reduceSub, Nat.reduceMul, Int.reduceEq, Int.reduceLT, Int.reduceLE, Int.reduceToNat]
    refine run_condA (by simp only [evL, evC, tg, reduceIte, Nat.reduceEqDiff]; rfl) (fun h9 => ?_) (fun h9 => ?_)
    · try simp only [decide_eq_true_eq, decide_eq_false_iff_not, Bool.not_eq_true', Bool.not_eq_false'] at h9
      have hno := clB_no (s := u) h5 h9
      refine run_seq ?_
      refine run_regS [2] (by decide) (fun F hF => ?_)
      simp only [go_sem, reduceIte, reduceCtorEq, Nat.reduceLT, Nat.reduceLeDiff, Nat.reduceEqDiff, Nat.reduceAdd, Nat.reduceSub, Nat.reduceMul, Int.reduceEq, Int.reduceLT, Int.reduceLE, Int.reduceToNat]
      refine hF _ ?_; clear hF F
      simp only [go_sem, reduceIte, reduceCtorEq, Nat.reduceLT, Nat.reduceLeDiff, Nat.reduceEqDiff, Nat.reduceAdd, Nat.reduceSub, Nat.reduceMul, Int.reduceEq, Int.reduceLT, Int.reduceLE, Int.reduceToNat]
      refine run_ret ?_
      refine fin_ofF (.inr rfl) [] rfl ?_ (by first | rfl | rfl | simp only [AV.clo, cloL, encV_clo, Bool.and_true, iA, bA])
      try simp only [go_sem, reduceIte, reduceCtorEq, Nat.reduceLT, Nat.reduceLeDiff, Nat.reduceEqDiff, Nat.reduceAdd, Nat.reduceSub, Nat.reduceMul, Int.reduceEq, Int.reduceLT, Int.reduceLE, Int.reduceToNat, AS.den, resV_one, resV_two, resV_three, clA_nil]
      refine Le.of_eq (bA_congr ?_)
      first
      | (rw [← hq, hno])
      | (rw [← hq, show u = [] from Classical.byContradiction h5, clB_nil])
      | (rw [← hq, h5, clB_nil])
    · try simp only [decide_eq_true_eq, decide_eq_false_iff_not, Bool.not_eq_true', Bool.not_eq_false'] at h9
      have hon := clB_on (s := u) h5 h9
      have hle := charV_le u
      have h0 : ¬ charV u < 0 := by omega
      have h1 : ¬ (u.length : Int) < charV u := by omega
      have h2 : 0 ≤ charV u := by omega
      have hd : u.take u.length = u := List.take_length
      refine run_skip ?_
      refine run_regS [0] (by decide) (fun F hF => ?_)
      simp only [go_sem, reduceIte, reduceCtorEq, Nat.reduceLT, Nat.reduceLeDiff, Nat.reduceEqDiff, Nat.reduceAdd, Nat.reduceSub, Nat.reduceMul, Int.reduceEq, Int.reduceLT, Int.reduceLE, Int.reduceToNat, hle.1, h2, hd, Int.toNat_natCast, List.take_length, true_and, and_true]
      repeat (first | (apply And.intro; · omega) | simp only [go_sem, reduceIte, reduceCtorEq, Nat.reduceLT, Nat.reduceLeDiff, Nat.reduceEqDiff, Nat.reduceAdd, Nat.reduceSub, Nat.reduceMul, Int.reduceEq, Int.reduceLT, Int.reduceLE, Int.reduceToNat, hle.1, h2, hd, Int.toNat_natCast, List.take_length, true_and, and_true])
      refine hF _ ?_; clear hF F
      simp only [go_sem, reduceIte, reduceCtorEq, Nat.reduceLT, Nat.reduceLeDiff, Nat.reduceEqDiff, Nat.reduceAdd, Nat.reduceSub, Nat.reduceMul, Int.reduceEq, Int.reduceLT, Int.reduceLE, Int.reduceToNat, hle.1, h2, hd, Int.toNat_natCast, List.take_length, true_and, and_true]
      refine run_blk ?_
      refine run_chk ?_
      exact ⟨u.drop (charV u).toNat, ⟨by rw [List.length_drop]; omega, by rw [hon, hq]⟩, by rw [List.length_drop]; omega, Sub.of_eq rfl⟩
  · try simp only [decide_eq_true_eq, decide_eq_false_iff_not, Bool.not_eq_true', Bool.not_eq_false'] at h5
    refine run_exit (k' := _) rfl ?_
    refine run_seq ?_
    refine run_regS [2] (by decide) (fun F hF => ?_)
    simp only [go_sem, reduceIte, reduceCtorEq, Nat.reduceLT, Nat.reduceLeDiff, Nat.reduceEqDiff, Nat.reduceAdd, Nat.reduceSub, Nat.reduceMul, Int.reduceEq, Int.reduceLT, Int.reduceLE, Int.reduceToNat]
    refine hF _ ?_; clear hF F
    simp only [go_sem, reduceIte, reduceCtorEq, Nat.reduceLT, Nat.reduceLeDiff, Nat.reduceEqDiff, Nat.reduceAdd, Nat.reduceSub, Nat.reduceMul, Int.reduceEq, Int.reduceLT, Int.reduceLE, Int.reduceToNat]
    refine run_ret ?_
    refine fin_ofF (.inr rfl) [] rfl ?_ (by first | rfl | rfl | simp only [AV.clo, cloL, encV_clo, Bool.and_true, iA, bA])
    try simp only [go_sem, reduceIte, reduceCtorEq, Nat.reduceLT, Nat.reduceLeDiff, Nat.reduceEqDiff, Nat.reduceAdd, Nat.reduceSub, Nat.reduceMul, Int.reduceEq, Int.reduceLT, Int.reduceLE, Int.reduceToNat, AS.den, resV_one, resV_two, resV_three, clA_nil]
    refine Le.of_eq (bA_congr ?_)
    first
    | (rw [← hq, hno])
    | (rw [← hq, show u = [] from Classical.byContradiction h5, clB_nil])
    | (rw [← hq, h5, clB_nil])

theorem plain66 (W : World) (v : JV) : Pure Tryd.prog W 66 [encV v] (bA (plB v.hd v.items.length)) := by
  refine pure_of_run Tryd.func66 rfl (by rw [Tryd.ntmps66]; simp) ?_
  rw [Tryd.ntmps66, st0_den]
  refine run_seq ?_
  refine run_regS [1] (by decide) (fun F hF => ?_)
  simp only [go_sem, reduceIte, reduceCtorEq, Nat.reduceLT, Nat.reduceLeDiff, Nat.reduceEqDiff, Nat.reduceAdd, Nat.reduceSub, Nat.reduceMul, Int.reduceEq, Int.reduceLT, Int.reduceLE, Int.reduceToNat]
  refine hF _ ?_; clear hF F
  simp only [go_sem, reduceIte, reduceCtorEq, Nat.reduceLT, Nat.reduceLeDiff, Nat.reduceEqDiff, Nat.reduceAdd, Nat.reduceSub, Nat.reduceMul, Int.reduceEq, Int.reduceLT, Int.reduceLE, Int.reduceToNat]
  refine run_seq ?_
  refine run_seq ?_
  refine run_regJS [1, 20] (fun b : Bool => ⟨[(1, .gp 1 0), (20, bA b)], [(1, .box (encV v) .own)]⟩) (fun b => b = ((!decide (v.kind = 3) && !decide (v.int = 0)) || (!decide (v.kind = 4) && !decide (v.text = [])))) (by decide) (fun F hF => ?_) (fun b hb => ?_)
  ·
    simp only [go_sem, reduceIte, reduceCtorEq, Nat.reduceLT, Nat.reduceLeDiff, Nat.reduceEqDiff, Nat.reduceAdd, Nat.reduceSub, Nat.reduceMul, Int.reduceEq, Int.reduceLT, Int.reduceLE, Int.reduceToNat]
    all_goals (try (refine aB_split (fun hg0 => ?_) (fun hg0 => ?_) <;> simp only [go_sem, reduceIte, reduceCtorEq, Nat.reduceLT, Nat.reduceLeDiff, Nat.reduceEqDiff, Nat.reduceAdd, Nat.reduceSub, Nat.reduceMul, Int.reduceEq, Int.reduceLT, Int.reduceLE, Int.reduceToNat, hg0]))
    all_goals (try (refine aB_split' (fun hg0 => ?_) (fun hg0 => ?_) <;> simp only [go_sem, reduceIte, reduceCtorEq, Nat.reduceLT, Nat.reduceLeDiff, Nat.reduceEqDiff, Nat.reduceAdd, Nat.reduceSub, Nat.reduceMul, Int.reduceEq, Int.reduceLT, Int.reduceLE, Int.reduceToNat, hg0, hg0]))
    all_goals (try (refine aB_split (fun hg0 => ?_) (fun hg0 => ?_) <;> simp only [go_sem, reduceIte, reduceCtorEq, Nat.reduceLT, Nat.reduceLeDiff, Nat.reduceEqDiff, Nat.reduceAdd, Nat.reduceSub, Nat.reduceMul, Int.reduceEq, Int.reduceLT, Int.reduceLE, Int.reduceToNat, hg0, hg0, hg0]))
    all_goals (refine hF _ ?_; clear hF F; simp only [go_sem, reduceIte, reduceCtorEq, Nat.reduceLT, Nat.reduceLeDiff, Nat.reduceEqDiff, Nat.reduceAdd, Nat.reduceSub, Nat.reduceMul, Int.reduceEq, Int.reduceLT, Int.reduceLE, Int.reduceToNat])
    all_goals (refine ⟨_, ?_, rfl⟩; try simp only [decide_eq_true_eq, decide_eq_false_iff_not, Bool.not_eq_true', Bool.not_eq_false'] at *; first | (simp [*]; done) | (simp_all; done))
  refine run_condA (by simp only [evL, evC, tg, reduceIte, Nat.reduceEqDiff]; rfl) (fun h20 => ?_) (fun h20 => ?_)
  · try simp only [decide_eq_true_eq, decide_eq_false_iff_not, Bool.not_eq_true', Bool.not_eq_false'] at h20
    refine run_seq ?_
    refine run_regS [2] (by decide) (fun F hF => ?_)
    simp only [go_sem, reduceIte, reduceCtorEq, Nat.reduceLT, Nat.reduceLeDiff, Nat.reduceEqDiff, Nat.reduceAdd, Nat.reduceSub, Nat.reduceMul, Int.reduceEq, Int.reduceLT, Int.reduceLE, Int.reduceToNat]
    refine hF _ ?_; clear hF F
    simp only [go_sem, reduceIte, reduceCtorEq, Nat.reduceLT, Nat.reduceLeDiff, Nat.reduceEqDiff, Nat.reduceAdd, Nat.reduceSub, Nat.reduceMul, Int.reduceEq, Int.reduceLT, Int.reduceLE, Int.reduceToNat]
    refine run_ret ?_
    refine fin_ofF (.inr rfl) [] rfl ?_ (by first | rfl | rfl | simp only [AV.clo, cloL, encV_clo, Bool.and_true, iA, bA])
    try simp only [go_sem, reduceIte, reduceCtorEq, Nat.reduceLT, Nat.reduceLeDiff, Nat.reduceEqDiff, Nat.reduceAdd, Nat.reduceSub, Nat.reduceMul, Int.reduceEq, Int.reduceLT, Int.reduceLE, Int.reduceToNat, AS.den, resV_one, resV_two, resV_three, clA_nil]
    refine Le.of_eq (bA_congr ?_)
    have e : plB v.hd v.items.length = (!b && (if v.kind = 6 then decide (v.names.length = v.items.length) else decide (v.names.length = 0) && (decide (v.kind = 5) || decide (v.items.length = 0)))) := by rw [hb]; rfl
    rw [e, h20]
    simp_all [Int.natCast_inj]
  · try simp only [decide_eq_true_eq, decide_eq_false_iff_not, Bool.not_eq_true', Bool.not_eq_false'] at h20
    refine run_skip ?_
    refine run_seq ?_
    refine run_seq ?_
    refine run_regS [1, 23] (by decide) (fun F hF => ?_)
    simp only [go_sem, reduceIte, reduceCtorEq, Nat.reduceLT, Nat.reduceLeDiff, Nat.reduceEqDiff, Nat.reduceAdd, Nat.reduceSub, Nat.reduceMul, Int.reduceEq, Int.reduceLT, Int.reduceLE, Int.reduceToNat]
    refine hF _ ?_; clear hF F
    simp only [go_sem, reduceIte, reduceCtorEq, Nat.reduceLT, Nat.reduceLeDiff, Nat.reduceEqDiff, Nat.reduceAdd, Nat.reduceSub, Nat.reduceMul, Int.reduceEq, Int.reduceLT, Int.reduceLE, Int.reduceToNat]
    refine run_condA (by simp only [evL, evC, tg, reduceIte, Nat.reduceEqDiff]; rfl) (fun h23 => ?_) (fun h23 => ?_)
    · try simp only [decide_eq_true_eq, decide_eq_false_iff_not, Bool.not_eq_true', Bool.not_eq_false'] at h23
      refine run_seq ?_
      refine run_regS [2] (by decide) (fun F hF => ?_)
      simp only [go_sem, reduceIte, reduceCtorEq, Nat.reduceLT, Nat.reduceLeDiff, Nat.reduceEqDiff, Nat.reduceAdd, Nat.reduceSub, Nat.reduceMul, Int.reduceEq, Int.reduceLT, Int.reduceLE, Int.reduceToNat]
      refine hF _ ?_; clear hF F
      simp only [go_sem, reduceIte, reduceCtorEq, Nat.reduceLT, Nat.reduceLeDiff, Nat.reduceEqDiff, Nat.reduceAdd, Nat.reduceSub, Nat.reduceMul, Int.reduceEq, Int.reduceLT, Int.reduceLE, Int.reduceToNat]
      refine run_ret ?_
      refine fin_ofF (.inr rfl) [] rfl ?_ (by first | rfl | rfl | simp only [AV.clo, cloL, encV_clo, Bool.and_true, iA, bA])
      try simp only [go_sem, reduceIte, reduceCtorEq, Nat.reduceLT, Nat.reduceLeDiff, Nat.reduceEqDiff, Nat.reduceAdd, Nat.reduceSub, Nat.reduceMul, Int.reduceEq, Int.reduceLT, Int.reduceLE, Int.reduceToNat, AS.den, resV_one, resV_two, resV_three, clA_nil]
      refine Le.of_eq (bA_congr ?_)
      have e : plB v.hd v.items.length = (!b && (if v.kind = 6 then decide (v.names.length = v.items.length) else decide (v.names.length = 0) && (decide (v.kind = 5) || decide (v.items.length = 0)))) := by rw [hb]; rfl
      rw [e, h20]
      simp_all [Int.natCast_inj]
    · try simp only [decide_eq_true_eq, decide_eq_false_iff_not, Bool.not_eq_true', Bool.not_eq_false'] at h23
      refine run_skip ?_
      refine run_seq ?_
      refine run_regS [2] (by decide) (fun F hF => ?_)
      simp only [go_sem, reduceIte, reduceCtorEq, Nat.reduceLT, Nat.reduceLeDiff, Nat.reduceEqDiff, Nat.reduceAdd, Nat.reduceSub, Nat.reduceMul, Int.reduceEq, Int.reduceLT, Int.reduceLE, Int.reduceToNat]
      all_goals (try (refine aB_split (fun hg0 => ?_) (fun hg0 => ?_) <;> simp only [go_sem, reduceIte, reduceCtorEq, Nat.reduceLT, Nat.reduceLeDiff, Nat.reduceEqDiff, Nat.reduceAdd, Nat.reduceSub, Nat.reduceMul, Int.reduceEq, Int.reduceLT, Int.reduceLE, Int.reduceToNat, hg0]))
      all_goals (try (refine aB_split' (fun hg0 => ?_) (fun hg0 => ?_) <;> simp only [go_sem, reduceIte, reduceCtorEq, Nat.reduceLT, Nat.reduceLeDiff, Nat.reduceEqDiff, Nat.reduceAdd, Nat.reduceSub, Nat.reduceMul, Int.reduceEq, Int.reduceLT, Int.reduceLE, Int.reduceToNat, hg0, hg0]))
      all_goals (refine hF _ ?_; clear hF F; simp only [go_sem, reduceIte, reduceCtorEq, Nat.reduceLT, Nat.reduceLeDiff, Nat.reduceEqDiff, Nat.reduceAdd, Nat.reduceSub, Nat.reduceMul, Int.reduceEq, Int.reduceLT, Int.reduceLE, Int.reduceToNat])
      ·
        refine run_ret ?_
        refine fin_ofF (.inr rfl) [] rfl ?_ (by first | rfl | rfl | simp only [AV.clo, cloL, encV_clo, Bool.and_true, iA, bA])
        try simp only [go_sem, reduceIte, reduceCtorEq, Nat.reduceLT, Nat.reduceLeDiff, Nat.reduceEqDiff, Nat.reduceAdd, Nat.reduceSub, Nat.reduceMul, Int.reduceEq, Int.reduceLT, Int.reduceLE, Int.reduceToNat, AS.den, resV_one, resV_two, resV_three, clA_nil]
        refine Le.of_eq (bA_congr ?_)
        have e : plB v.hd v.items.length = (!b && (if v.kind = 6 then decide (v.names.length = v.items.length) else decide (v.names.length = 0) && (decide (v.kind = 5) || decide (v.items.length = 0)))) := by rw [hb]; rfl
        rw [e, h20]
        simp_all [Int.natCast_inj]
      ·
        refine run_ret ?_
        refine fin_ofF (.inr rfl) [] rfl ?_ (by first | rfl | rfl | simp only [AV.clo, cloL, encV_clo, Bool.and_true, iA, bA])
        try simp only [go_sem, reduceIte, reduceCtorEq, Nat.reduceLT, Nat.reduceLeDiff, Nat.reduceEqDiff, Nat.reduceAdd, Nat.reduceSub, Nat.reduceMul, Int.reduceEq, Int.reduceLT, Int.reduceLE, Int.reduceToNat, AS.den, resV_one, resV_two, resV_three, clA_nil]
        refine Le.of_eq (bA_congr ?_)
        have e : plB v.hd v.items.length = (!b && (if v.kind = 6 then decide (v.names.length = v.items.length) else decide (v.names.length = 0) && (decide (v.kind = 5) || decide (v.items.length = 0)))) := by rw [hb]; rfl
        rw [e, h20]
        simp_all [Int.natCast_inj]
      ·
        refine run_ret ?_
        refine fin_ofF (.inr rfl) [] rfl ?_ (by first | rfl | rfl | simp only [AV.clo, cloL, encV_clo, Bool.and_true, iA, bA])
        try simp only [go_sem, reduceIte, reduceCtorEq, Nat.reduceLT, Nat.reduceLeDiff, Nat.reduceEqDiff, Nat.reduceAdd, Nat.reduceSub, Nat.reduceMul, Int.reduceEq, Int.reduceLT, Int.reduceLE, Int.reduceToNat, AS.den, resV_one, resV_two, resV_three, clA_nil]
        refine Le.of_eq (bA_congr ?_)
        have e : plB v.hd v.items.length = (!b && (if v.kind = 6 then decide (v.names.length = v.items.length) else decide (v.names.length = 0) && (decide (v.kind = 5) || decide (v.items.length = 0)))) := by rw [hb]; rfl
        rw [e, h20]
        simp_all [Int.natCast_inj]


theorem chkV_eq (v : JV) (d : Int) : chkV v d = if 64 < d ∨ ((v.kind = 5 ∨ v.kind = 6) ∧ d = 64) then 17 else if v.kind < 0 ∨ 6 < v.kind ∨ plB v.hd v.items.length = false ∨ clB v.text = false then 18 else chkL v.kind v.names v.items d 0 := by
  cases v; rw [chkV]; rfl
theorem chkL_at {k : Int} {ns : List (List UInt8)} {l : List JV} {d : Int} {i : Nat} {x : JV} (hx : l[i]? = some x) : chkL k ns (l.drop i) d i =
    if k = 6 ∧ clB (ns[i]?.getD []) = false then 18 else if k = 6 ∧ hasB (ns.take i) (ns[i]?.getD []) = true then 16 else if chkV x (d + 1) ≠ 0 then chkV x (d + 1) else chkL k ns (l.drop (i + 1)) d (i + 1) := by
  obtain ⟨h1, h2⟩ := List.getElem?_eq_some_iff.1 hx
  rw [List.drop_eq_getElem_cons h1, chkL, h2]
theorem plB_len {h : JH} {n : Nat} (e : plB h n = true) (hk : h.kind = 6) : h.names.length = n := by
  simp only [plB, Bool.and_eq_true] at e
  have e2 := e.2
  rw [if_pos hk] at e2
  exact of_decide_eq_true e2

theorem check54_step (W : World) (v : JV) (d : Int) (hdd : 0 ≤ d ∧ d ≤ 65) (hv : okV v) (ih : ∀ u, sizeV u < sizeV v → okV u → ∀ e : Int, 0 ≤ e ∧ e ≤ 65 → Pure Tryd.prog W 54 [encV u, iA e] (iA (chkV u e))) : Pure Tryd.prog W 54 [encV v, iA d] (iA (chkV v d)) := by
  have hnames := okV_nm hv
  have hln := okV_ln hv
  have hCV := chkV_eq v d
  refine pure_of_run Tryd.func54 rfl (by rw [Tryd.ntmps54]; simp) ?_
  rw [Tryd.ntmps54, st0_den]
  refine run_seq ?_
  refine run_regS [1, 2] (by decide) (fun F hF => ?_)
  simp only [go_sem, reduceIte, reduceCtorEq, Nat.reduceLT, Nat.reduceLeDiff, Nat.reduceEqDiff, Nat.reduceAdd, Nat.reduceSub, Nat.reduceMul, Int.reduceEq, Int.reduceLT, Int.reduceLE, Int.reduceToNat]
  refine hF _ ?_; clear hF F
  simp only [go_sem, reduceIte, reduceCtorEq, Nat.reduceLT, Nat.reduceLeDiff, Nat.reduceEqDiff, Nat.reduceAdd, Nat.reduceSub, Nat.reduceMul, Int.reduceEq, Int.reduceLT, Int.reduceLE, Int.reduceToNat]
  refine run_seq ?_
  refine run_regJS [1, 2, 5] (fun b : Bool => ⟨[(1, iA d), (2, .gp 2 0), (5, bA b)], [(2, .box (encV v) .own)]⟩) (fun b => b = true ↔ (v.kind = 5 ∨ v.kind = 6)) (by decide) (fun F hF => ?_) (fun b1 hb1 => ?_)
  ·
    simp only [go_sem, reduceIte, reduceCtorEq, Nat.reduceLT, Nat.reduceLeDiff, Nat.reduceEqDiff, Nat.reduceAdd, Nat.reduceSub, Nat.reduceMul, Int.reduceEq, Int.reduceLT, Int.reduceLE, Int.reduceToNat]
    all_goals (try (refine aB_split' (fun hg0 => ?_) (fun hg0 => ?_) <;> simp only [go_sem, reduceIte, reduceCtorEq, Nat.reduceLT, Nat.reduceLeDiff, Nat.reduceEqDiff, Nat.reduceAdd, Nat.reduceSub, Nat.reduceMul, Int.reduceEq, Int.reduceLT, Int.reduceLE, Int.reduceToNat, hg0]))
    all_goals (refine hF _ ?_; clear hF F; simp only [go_sem, reduceIte, reduceCtorEq, Nat.reduceLT, Nat.reduceLeDiff, Nat.reduceEqDiff, Nat.reduceAdd, Nat.reduceSub, Nat.reduceMul, Int.reduceEq, Int.reduceLT, Int.reduceLE, Int.reduceToNat])
    all_goals (refine ⟨_, ?_, rfl⟩; try simp only [decide_eq_true_eq, decide_eq_false_iff_not, Bool.not_eq_true', Bool.not_eq_false'] at *; first | omega | (simp_all; done) | (simp_all; omega) | (constructor <;> intro q <;> simp_all <;> omega) | (cases hq2 : clB v.text <;> simp_all <;> omega) | (cases hq2 : clB v.text <;> simp_all))
  refine run_seq ?_
  refine run_seq ?_
  refine run_regJS [1, 2, 24] (fun b : Bool => ⟨[(1, iA d), (2, .gp 2 0), (24, bA b)], [(2, .box (encV v) .own)]⟩) (fun b => b = true ↔ (64 < d ∨ ((v.kind = 5 ∨ v.kind = 6) ∧ d = 64))) (by decide) (fun F hF => ?_) (fun b2 hb2 => ?_)
  ·
    simp only [go_sem, reduceIte, reduceCtorEq, Nat.reduceLT, Nat.reduceLeDiff, Nat.reduceEqDiff, Nat.reduceAdd, Nat.reduceSub, Nat.reduceMul, Int.reduceEq, Int.reduceLT, Int.reduceLE, Int.reduceToNat]
    all_goals (try (refine aB_split' (fun hg0 => ?_) (fun hg0 => ?_) <;> simp only [go_sem, reduceIte, reduceCtorEq, Nat.reduceLT, Nat.reduceLeDiff, Nat.reduceEqDiff, Nat.reduceAdd, Nat.reduceSub, Nat.reduceMul, Int.reduceEq, Int.reduceLT, Int.reduceLE, Int.reduceToNat, hg0]))
    all_goals (try (refine aB_split (fun hg0 => ?_) (fun hg0 => ?_) <;> simp only [go_sem, reduceIte, reduceCtorEq, Nat.reduceLT, Nat.reduceLeDiff, Nat.reduceEqDiff, Nat.reduceAdd, Nat.reduceSub, Nat.reduceMul, Int.reduceEq, Int.reduceLT, Int.reduceLE, Int.reduceToNat, hg0, hg0]))
    all_goals (refine hF _ ?_; clear hF F; simp only [go_sem, reduceIte, reduceCtorEq, Nat.reduceLT, Nat.reduceLeDiff, Nat.reduceEqDiff, Nat.reduceAdd, Nat.reduceSub, Nat.reduceMul, Int.reduceEq, Int.reduceLT, Int.reduceLE, Int.reduceToNat])
    all_goals (refine ⟨_, ?_, rfl⟩; try simp only [decide_eq_true_eq, decide_eq_false_iff_not, Bool.not_eq_true', Bool.not_eq_false'] at *; first | omega | (simp_all; done) | (simp_all; omega) | (constructor <;> intro q <;> simp_all <;> omega) | (cases hq2 : clB v.text <;> simp_all <;> omega) | (cases hq2 : clB v.text <;> simp_all))
  refine run_condA (by simp only [evL, evC, tg, reduceIte, Nat.reduceEqDiff]; rfl) (fun h24 => ?_) (fun h24 => ?_)
  · try simp only [decide_eq_true_eq, decide_eq_false_iff_not, Bool.not_eq_true', Bool.not_eq_false'] at h24
    rw [if_pos (hb2.1 h24)] at hCV
    refine run_seq ?_
    refine run_regS [4] (by decide) (fun F hF => ?_)
    simp only [go_sem, reduceIte, reduceCtorEq, Nat.reduceLT, Nat.reduceLeDiff, Nat.reduceEqDiff, Nat.reduceAdd, Nat.reduceSub, Nat.reduceMul, Int.reduceEq, Int.reduceLT, Int.reduceLE, Int.reduceToNat]
    refine hF _ ?_; clear hF F
    simp only [go_sem, reduceIte, reduceCtorEq, Nat.reduceLT, Nat.reduceLeDiff, Nat.reduceEqDiff, Nat.reduceAdd, Nat.reduceSub, Nat.reduceMul, Int.reduceEq, Int.reduceLT, Int.reduceLE, Int.reduceToNat]
    refine run_ret ?_
    refine fin_ofF (.inr rfl) [] rfl ?_ (by first | rfl | rfl | simp only [AV.clo, cloL, encV_clo, Bool.and_true, iA, bA])
    try simp only [go_sem, reduceIte, reduceCtorEq, Nat.reduceLT, Nat.reduceLeDiff, Nat.reduceEqDiff, Nat.reduceAdd, Nat.reduceSub, Nat.reduceMul, Int.reduceEq, Int.reduceLT, Int.reduceLE, Int.reduceToNat, AS.den, resV_one, resV_two, resV_three, clA_nil]
    refine Le.of_eq (iA_congr ?_)
    first
    | exact hL.symm
    | exact hL0
    | exact hCV.symm
  · try simp only [decide_eq_true_eq, decide_eq_false_iff_not, Bool.not_eq_true', Bool.not_eq_false'] at h24
    have n2 : ¬ (64 < d ∨ ((v.kind = 5 ∨ v.kind = 6) ∧ d = 64)) := fun e => by have := hb2.2 e; rw [h24] at this; cases this
    rw [if_neg n2] at hCV
    have hd64 : ¬ 64 < d := fun e => n2 (.inl e)
    refine run_skip ?_
    refine run_seq ?_
    refine run_seq ?_
    refine run_regJS [1, 2, 43] (fun b : Bool => ⟨[(1, iA d), (2, .gp 2 0), (43, bA b)], [(2, .box (encV v) .own)]⟩) (fun b => b = true ↔ (v.kind < 0 ∨ 6 < v.kind ∨ plB v.hd v.items.length = false ∨ clB v.text = false)) (by decide) (fun F hF => ?_) (fun b4 hb4 => ?_)
    ·
      simp only [go_sem, reduceIte, reduceCtorEq, Nat.reduceLT, Nat.reduceLeDiff, Nat.reduceEqDiff, Nat.reduceAdd, Nat.reduceSub, Nat.reduceMul, Int.reduceEq, Int.reduceLT, Int.reduceLE, Int.reduceToNat]
      all_goals (try (refine aB_split' (fun hg0 => ?_) (fun hg0 => ?_) <;> simp only [go_sem, reduceIte, reduceCtorEq, Nat.reduceLT, Nat.reduceLeDiff, Nat.reduceEqDiff, Nat.reduceAdd, Nat.reduceSub, Nat.reduceMul, Int.reduceEq, Int.reduceLT, Int.reduceLE, Int.reduceToNat, hg0]))
      all_goals (try (refine aB_split' (fun hg0 => ?_) (fun hg0 => ?_) <;> simp only [go_sem, reduceIte, reduceCtorEq, Nat.reduceLT, Nat.reduceLeDiff, Nat.reduceEqDiff, Nat.reduceAdd, Nat.reduceSub, Nat.reduceMul, Int.reduceEq, Int.reduceLT, Int.reduceLE, Int.reduceToNat, hg0, hg0]))
      all_goals (try (refine aCall_flat0 (plain66 W v) call66 (.cons (.refl _) .nil) (by first | rfl | simp only [cloL, encV_clo, AV.clo, Bool.and_true, iA, bA, lsA_clo]) (by rfl) ?_; simp only [go_sem, reduceIte, reduceCtorEq, Nat.reduceLT, Nat.reduceLeDiff, Nat.reduceEqDiff, Nat.reduceAdd, Nat.reduceSub, Nat.reduceMul, Int.reduceEq, Int.reduceLT, Int.reduceLE, Int.reduceToNat, hg0, hg0]))
      all_goals (try (refine aB_split' (fun hg0 => ?_) (fun hg0 => ?_) <;> simp only [go_sem, reduceIte, reduceCtorEq, Nat.reduceLT, Nat.reduceLeDiff, Nat.reduceEqDiff, Nat.reduceAdd, Nat.reduceSub, Nat.reduceMul, Int.reduceEq, Int.reduceLT, Int.reduceLE, Int.reduceToNat, hg0, hg0, hg0]))
      all_goals (try (refine aCall_flat0 (clean67 W v.text) call67 (.cons (.refl _) .nil) (by first | rfl | simp only [cloL, encV_clo, AV.clo, Bool.and_true, iA, bA, lsA_clo]) (by rfl) ?_; simp only [go_sem, reduceIte, reduceCtorEq, Nat.reduceLT, Nat.reduceLeDiff, Nat.reduceEqDiff, Nat.reduceAdd, Nat.reduceSub, Nat.reduceMul, Int.reduceEq, Int.reduceLT, Int.reduceLE, Int.reduceToNat, hg0, hg0, hg0]))
      all_goals (refine hF _ ?_; clear hF F; simp only [go_sem, reduceIte, reduceCtorEq, Nat.reduceLT, Nat.reduceLeDiff, Nat.reduceEqDiff, Nat.reduceAdd, Nat.reduceSub, Nat.reduceMul, Int.reduceEq, Int.reduceLT, Int.reduceLE, Int.reduceToNat])
      all_goals (refine ⟨_, ?_, rfl⟩; try simp only [decide_eq_true_eq, decide_eq_false_iff_not, Bool.not_eq_true', Bool.not_eq_false'] at *; first | omega | (simp_all; done) | (simp_all; omega) | (constructor <;> intro q <;> simp_all <;> omega) | (cases hq2 : clB v.text <;> simp_all <;> omega) | (cases hq2 : clB v.text <;> simp_all))
    refine run_condA (by simp only [evL, evC, tg, reduceIte, Nat.reduceEqDiff]; rfl) (fun h43 => ?_) (fun h43 => ?_)
    · try simp only [decide_eq_true_eq, decide_eq_false_iff_not, Bool.not_eq_true', Bool.not_eq_false'] at h43
      rw [if_pos (hb4.1 h43)] at hCV
      refine run_seq ?_
      refine run_regS [4] (by decide) (fun F hF => ?_)
      simp only [go_sem, reduceIte, reduceCtorEq, Nat.reduceLT, Nat.reduceLeDiff, Nat.reduceEqDiff, Nat.reduceAdd, Nat.reduceSub, Nat.reduceMul, Int.reduceEq, Int.reduceLT, Int.reduceLE, Int.reduceToNat]
      refine hF _ ?_; clear hF F
      simp only [go_sem, reduceIte, reduceCtorEq, Nat.reduceLT, Nat.reduceLeDiff, Nat.reduceEqDiff, Nat.reduceAdd, Nat.reduceSub, Nat.reduceMul, Int.reduceEq, Int.reduceLT, Int.reduceLE, Int.reduceToNat]
      refine run_ret ?_
      refine fin_ofF (.inr rfl) [] rfl ?_ (by first | rfl | rfl | simp only [AV.clo, cloL, encV_clo, Bool.and_true, iA, bA])
      try simp only [go_sem, reduceIte, reduceCtorEq, Nat.reduceLT, Nat.reduceLeDiff, Nat.reduceEqDiff, Nat.reduceAdd, Nat.reduceSub, Nat.reduceMul, Int.reduceEq, Int.reduceLT, Int.reduceLE, Int.reduceToNat, AS.den, resV_one, resV_two, resV_three, clA_nil]
      refine Le.of_eq (iA_congr ?_)
      first
      | exact hL.symm
      | exact hL0
      | exact hCV.symm
    · try simp only [decide_eq_true_eq, decide_eq_false_iff_not, Bool.not_eq_true', Bool.not_eq_false'] at h43
      have n4 : ¬ (v.kind < 0 ∨ 6 < v.kind ∨ plB v.hd v.items.length = false ∨ clB v.text = false) := fun e => by have := hb4.2 e; rw [h43] at this; cases this
      rw [if_neg n4] at hCV
      have hplB : plB v.hd v.items.length = true := by
        cases hh : plB v.hd v.items.length with
        | true => rfl
        | false => exact absurd (.inr (.inr (.inl hh))) n4
      have hlen : v.kind = 6 → v.names.length = v.items.length := fun hk => plB_len hplB hk
      have hwd : IntKind.i64.wrap (d + 1) = d + 1 := IntWalk.i64_in _ (by omega)
      refine run_skip ?_
      refine run_seq ?_
      refine run_seq ?_
      refine run_regS [1, 2, 6] (by decide) (fun F hF => ?_)
      simp only [go_sem, reduceIte, reduceCtorEq, Nat.reduceLT, Nat.reduceLeDiff, Nat.reduceEqDiff, Nat.reduceAdd, Nat.reduceSub, Nat.reduceMul, Int.reduceEq, Int.reduceLT, Int.reduceLE, Int.reduceToNat]
      refine hF _ ?_; clear hF F
      simp only [go_sem, reduceIte, reduceCtorEq, Nat.reduceLT, Nat.reduceLeDiff, Nat.reduceEqDiff, Nat.reduceAdd, Nat.reduceSub, Nat.reduceMul, Int.reduceEq, Int.reduceLT, Int.reduceLE, Int.reduceToNat]
      refine run_block ?_
      refine run_loopA (fun i : Nat => ⟨[(1, iA d), (2, .gp 2 0), (6, iA i)], [(2, .box (encV v) .own)]⟩) (fun i => i ≤ v.items.length ∧ chkL v.kind v.names (v.items.drop i) d i = chkV v d) (fun i => v.items.length - i) (0) (Sub.of_eq rfl) (⟨by omega, by rw [hCV]; rfl⟩) (fun i hi => ?_)
      refine run_seq ?_
      refine run_seq ?_
      refine run_regS [1, 2, 6, 48] (by decide) (fun F hF => ?_)
      simp only [go_sem, reduceIte, reduceCtorEq, Nat.reduceLT, Nat.reduceLeDiff, Nat.reduceEqDiff, Nat.reduceAdd, Nat.reduceSub, Nat.reduceMul, Int.reduceEq, Int.reduceLT, Int.reduceLE, Int.reduceToNat]
      refine hF _ ?_; clear hF F
      simp only [go_sem, reduceIte, reduceCtorEq, Nat.reduceLT, Nat.reduceLeDiff, Nat.reduceEqDiff, Nat.reduceAdd, Nat.reduceSub, Nat.reduceMul, Int.reduceEq, Int.reduceLT, Int.reduceLE, Int.reduceToNat]
      refine run_condA (by simp only [evL, evC, tg, reduceIte, Nat.reduceEqDiff]; rfl) (fun h48 => ?_) (fun h48 => ?_)
      · try simp only [decide_eq_true_eq, decide_eq_false_iff_not, Bool.not_eq_true', Bool.not_eq_false'] at h48
        obtain ⟨x, hx⟩ := getOf (l := v.items) (i := i) (by omega)
        have hL := chkL_at (k := v.kind) (ns := v.names) (d := d) hx
        obtain ⟨nm, hnmd⟩ : ∃ nm : List UInt8, v.names[i]?.getD [] = nm := ⟨_, rfl⟩
        rw [hnmd, hi.2] at hL
        have hnm : v.kind = 6 → v.names[i]? = some nm := fun hk => by have := hlen hk; rw [← hnmd, List.getElem?_eq_getElem (by omega)]; rfl
        refine run_skip ?_
        refine run_seq ?_
        refine run_block ?_
        refine run_seq ?_
        refine run_seq ?_
        refine run_regJS [1, 2, 6, 62] (fun b : Bool => ⟨[(1, iA d), (2, .gp 2 0), (6, iA i), (62, bA b)], [(2, .box (encV v) .own)]⟩) (fun b => b = true ↔ (v.kind = 6 ∧ clB nm = false)) (by decide) (fun F hF => ?_) (fun b9 hb9 => ?_)
        ·
          simp only [go_sem, reduceIte, reduceCtorEq, Nat.reduceLT, Nat.reduceLeDiff, Nat.reduceEqDiff, Nat.reduceAdd, Nat.reduceSub, Nat.reduceMul, Int.reduceEq, Int.reduceLT, Int.reduceLE, Int.reduceToNat]
          all_goals (try (refine aB_split (fun hg0 => ?_) (fun hg0 => ?_) <;> simp only [go_sem, reduceIte, reduceCtorEq, Nat.reduceLT, Nat.reduceLeDiff, Nat.reduceEqDiff, Nat.reduceAdd, Nat.reduceSub, Nat.reduceMul, Int.reduceEq, Int.reduceLT, Int.reduceLE, Int.reduceToNat, hg0]))
          all_goals (try (have hx6 := hnm (by simpa using hg0); have hle6 := hlen (by simpa using hg0); simp only [go_sem, reduceIte, reduceCtorEq, Nat.reduceLT, Nat.reduceLeDiff, Nat.reduceEqDiff, Nat.reduceAdd, Nat.reduceSub, Nat.reduceMul, Int.reduceEq, Int.reduceLT, Int.reduceLE, Int.reduceToNat, hx6, List.getElem?_map, Option.map_some, Int.toNat_natCast, Int.natCast_nonneg, le_add0, take_map_len, drop_map_len, ge0_len1, one_le_len1, Int.toNat_natCast, Int.reduceToNat, Int.toNat_one, Int.toNat_zero, Int.le_refl, Int.natCast_nonneg, List.drop_zero]; repeat (first | (apply And.intro; · omega) | simp only [go_sem, reduceIte, reduceCtorEq, Nat.reduceLT, Nat.reduceLeDiff, Nat.reduceEqDiff, Nat.reduceAdd, Nat.reduceSub, Nat.reduceMul, Int.reduceEq, Int.reduceLT, Int.reduceLE, Int.reduceToNat, hx6, List.getElem?_map, Option.map_some, Int.toNat_natCast, Int.natCast_nonneg, le_add0, take_map_len, drop_map_len, ge0_len1, one_le_len1, Int.toNat_natCast, Int.reduceToNat, Int.toNat_one, Int.toNat_zero, Int.le_refl, Int.natCast_nonneg, List.drop_zero])))
          all_goals (try (refine aCall_flat0 (clean67 W nm) call67 (.cons (.refl _) .nil) (by first | rfl | simp only [cloL, encV_clo, AV.clo, Bool.and_true, iA, bA, lsA_clo]) (by rfl) ?_; simp only [go_sem, reduceIte, reduceCtorEq, Nat.reduceLT, Nat.reduceLeDiff, Nat.reduceEqDiff, Nat.reduceAdd, Nat.reduceSub, Nat.reduceMul, Int.reduceEq, Int.reduceLT, Int.reduceLE, Int.reduceToNat, hg0]))
          all_goals (refine hF _ ?_; clear hF F; simp only [go_sem, reduceIte, reduceCtorEq, Nat.reduceLT, Nat.reduceLeDiff, Nat.reduceEqDiff, Nat.reduceAdd, Nat.reduceSub, Nat.reduceMul, Int.reduceEq, Int.reduceLT, Int.reduceLE, Int.reduceToNat])
          all_goals (refine ⟨_, ?_, rfl⟩; try simp only [decide_eq_true_eq, decide_eq_false_iff_not, Bool.not_eq_true', Bool.not_eq_false'] at *; first | omega | (simp_all; done) | (simp_all; omega) | (constructor <;> intro q <;> simp_all <;> omega) | (cases hq2 : clB v.text <;> simp_all <;> omega) | (cases hq2 : clB v.text <;> simp_all))
        refine run_condA (by simp only [evL, evC, tg, reduceIte, Nat.reduceEqDiff]; rfl) (fun h62 => ?_) (fun h62 => ?_)
        · try simp only [decide_eq_true_eq, decide_eq_false_iff_not, Bool.not_eq_true', Bool.not_eq_false'] at h62
          rw [if_pos (hb9.1 h62)] at hL
          refine run_seq ?_
          refine run_regS [4] (by decide) (fun F hF => ?_)
          simp only [go_sem, reduceIte, reduceCtorEq, Nat.reduceLT, Nat.reduceLeDiff, Nat.reduceEqDiff, Nat.reduceAdd, Nat.reduceSub, Nat.reduceMul, Int.reduceEq, Int.reduceLT, Int.reduceLE, Int.reduceToNat]
          refine hF _ ?_; clear hF F
          simp only [go_sem, reduceIte, reduceCtorEq, Nat.reduceLT, Nat.reduceLeDiff, Nat.reduceEqDiff, Nat.reduceAdd, Nat.reduceSub, Nat.reduceMul, Int.reduceEq, Int.reduceLT, Int.reduceLE, Int.reduceToNat]
          refine run_ret ?_
          refine fin_ofF (.inr rfl) [] rfl ?_ (by first | rfl | rfl | simp only [AV.clo, cloL, encV_clo, Bool.and_true, iA, bA])
          try simp only [go_sem, reduceIte, reduceCtorEq, Nat.reduceLT, Nat.reduceLeDiff, Nat.reduceEqDiff, Nat.reduceAdd, Nat.reduceSub, Nat.reduceMul, Int.reduceEq, Int.reduceLT, Int.reduceLE, Int.reduceToNat, AS.den, resV_one, resV_two, resV_three, clA_nil]
          refine Le.of_eq (iA_congr ?_)
          first
          | exact hL.symm
          | exact hL0
          | exact hCV.symm
        · try simp only [decide_eq_true_eq, decide_eq_false_iff_not, Bool.not_eq_true', Bool.not_eq_false'] at h62
          have n9 : ¬ (v.kind = 6 ∧ clB nm = false) := fun e => by have := hb9.2 e; rw [h62] at this; cases this
          rw [if_neg n9] at hL
          refine run_skip ?_
          refine run_seq ?_
          refine run_seq ?_
          refine run_regJD [1, 2, 6, 77] (fun b : Bool => ⟨[(1, iA d), (2, .gp 2 0), (6, iA i), (77, bA b)], [(2, .box (encV v) .own)]⟩) (fun b => b = true ↔ (v.kind = 6 ∧ hasB (v.names.take i) nm = true)) (by decide) mixed0 (by decide) (fun F hF => ?_) (fun b11 hb11 => ?_)
          ·
            simp only [go_sem, reduceIte, reduceCtorEq, Nat.reduceLT, Nat.reduceLeDiff, Nat.reduceEqDiff, Nat.reduceAdd, Nat.reduceSub, Nat.reduceMul, Int.reduceEq, Int.reduceLT, Int.reduceLE, Int.reduceToNat]
            all_goals (try (refine aB_split (fun hg0 => ?_) (fun hg0 => ?_) <;> simp only [go_sem, reduceIte, reduceCtorEq, Nat.reduceLT, Nat.reduceLeDiff, Nat.reduceEqDiff, Nat.reduceAdd, Nat.reduceSub, Nat.reduceMul, Int.reduceEq, Int.reduceLT, Int.reduceLE, Int.reduceToNat, hg0]))
            all_goals (try (have hx6 := hnm (by simpa using hg0); have hle6 := hlen (by simpa using hg0); simp only [go_sem, reduceIte, reduceCtorEq, Nat.reduceLT, Nat.reduceLeDiff, Nat.reduceEqDiff, Nat.reduceAdd, Nat.reduceSub, Nat.reduceMul, Int.reduceEq, Int.reduceLT, Int.reduceLE, Int.reduceToNat, hx6, List.getElem?_map, Option.map_some, Int.toNat_natCast, Int.natCast_nonneg, le_add0, take_map_len, drop_map_len, ge0_len1, one_le_len1, Int.toNat_natCast, Int.reduceToNat, Int.toNat_one, Int.toNat_zero, Int.le_refl, Int.natCast_nonneg, List.drop_zero]; repeat (first | (apply And.intro; · omega) | simp only [go_sem, reduceIte, reduceCtorEq, Nat.reduceLT, Nat.reduceLeDiff, Nat.reduceEqDiff, Nat.reduceAdd, Nat.reduceSub, Nat.reduceMul, Int.reduceEq, Int.reduceLT, Int.reduceLE, Int.reduceToNat, hx6, List.getElem?_map, Option.map_some, Int.toNat_natCast, Int.natCast_nonneg, le_add0, take_map_len, drop_map_len, ge0_len1, one_le_len1, Int.toNat_natCast, Int.reduceToNat, Int.toNat_one, Int.toNat_zero, Int.le_refl, Int.natCast_nonneg, List.drop_zero])))
            all_goals (try (refine aCall_flat0 (has68 W (v.names.take i) nm (by rw [List.length_take]; omega)) call68 (.cons (by rw [List.map_take]; exact .rest _ _ _) (.cons (.refl _) .nil)) (by first | rfl | simp only [cloL, encV_clo, AV.clo, Bool.and_true, iA, bA, lsA_clo]) (by rfl) ?_; simp only [go_sem, reduceIte, reduceCtorEq, Nat.reduceLT, Nat.reduceLeDiff, Nat.reduceEqDiff, Nat.reduceAdd, Nat.reduceSub, Nat.reduceMul, Int.reduceEq, Int.reduceLT, Int.reduceLE, Int.reduceToNat, hg0]))
            all_goals (refine ⟨by decide, ?_⟩)
            all_goals (refine hF _ ?_; clear hF F; simp only [go_sem, reduceIte, reduceCtorEq, Nat.reduceLT, Nat.reduceLeDiff, Nat.reduceEqDiff, Nat.reduceAdd, Nat.reduceSub, Nat.reduceMul, Int.reduceEq, Int.reduceLT, Int.reduceLE, Int.reduceToNat])
            all_goals (refine ⟨_, ?_, rfl⟩; try simp only [decide_eq_true_eq, decide_eq_false_iff_not, Bool.not_eq_true', Bool.not_eq_false'] at *; first | omega | (simp_all; done) | (simp_all; omega) | (constructor <;> intro q <;> simp_all <;> omega) | (cases hq2 : clB v.text <;> simp_all <;> omega) | (cases hq2 : clB v.text <;> simp_all))
          refine run_condA (by simp only [evL, evC, tg, reduceIte, Nat.reduceEqDiff]; rfl) (fun h77 => ?_) (fun h77 => ?_)
          · try simp only [decide_eq_true_eq, decide_eq_false_iff_not, Bool.not_eq_true', Bool.not_eq_false'] at h77
            rw [if_pos (hb11.1 h77)] at hL
            refine run_seq ?_
            refine run_regS [4] (by decide) (fun F hF => ?_)
            simp only [go_sem, reduceIte, reduceCtorEq, Nat.reduceLT, Nat.reduceLeDiff, Nat.reduceEqDiff, Nat.reduceAdd, Nat.reduceSub, Nat.reduceMul, Int.reduceEq, Int.reduceLT, Int.reduceLE, Int.reduceToNat]
            refine hF _ ?_; clear hF F
            simp only [go_sem, reduceIte, reduceCtorEq, Nat.reduceLT, Nat.reduceLeDiff, Nat.reduceEqDiff, Nat.reduceAdd, Nat.reduceSub, Nat.reduceMul, Int.reduceEq, Int.reduceLT, Int.reduceLE, Int.reduceToNat]
            refine run_ret ?_
            refine fin_ofF (.inr rfl) [] rfl ?_ (by first | rfl | rfl | simp only [AV.clo, cloL, encV_clo, Bool.and_true, iA, bA])
            try simp only [go_sem, reduceIte, reduceCtorEq, Nat.reduceLT, Nat.reduceLeDiff, Nat.reduceEqDiff, Nat.reduceAdd, Nat.reduceSub, Nat.reduceMul, Int.reduceEq, Int.reduceLT, Int.reduceLE, Int.reduceToNat, AS.den, resV_one, resV_two, resV_three, clA_nil]
            refine Le.of_eq (iA_congr ?_)
            first
            | exact hL.symm
            | exact hL0
            | exact hCV.symm
          · try simp only [decide_eq_true_eq, decide_eq_false_iff_not, Bool.not_eq_true', Bool.not_eq_false'] at h77
            have n11 : ¬ (v.kind = 6 ∧ hasB (v.names.take i) nm = true) := fun e => by have := hb11.2 e; rw [h77] at this; cases this
            rw [if_neg n11] at hL
            refine run_skip ?_
            refine run_seq ?_
            refine run_regS [1, 2, 6, 7] (by decide) (fun F hF => ?_)
            simp only [go_sem, reduceIte, reduceCtorEq, Nat.reduceLT, Nat.reduceLeDiff, Nat.reduceEqDiff, Nat.reduceAdd, Nat.reduceSub, Nat.reduceMul, Int.reduceEq, Int.reduceLT, Int.reduceLE, Int.reduceToNat, hx, hwd, List.getElem?_map, Option.map_some, le_add0, take_map_len, drop_map_len, ge0_len1, one_le_len1, Int.toNat_natCast, Int.reduceToNat, Int.toNat_one, Int.toNat_zero, Int.le_refl, Int.natCast_nonneg, List.drop_zero]
            repeat (first | (apply And.intro; · omega) | simp only [go_sem, reduceIte, reduceCtorEq, Nat.reduceLT, Nat.reduceLeDiff, Nat.reduceEqDiff, Nat.reduceAdd, Nat.reduceSub, Nat.reduceMul, Int.reduceEq, Int.reduceLT, Int.reduceLE, Int.reduceToNat, hx, hwd, List.getElem?_map, Option.map_some, le_add0, take_map_len, drop_map_len, ge0_len1, one_le_len1, Int.toNat_natCast, Int.reduceToNat, Int.toNat_one, Int.toNat_zero, Int.le_refl, Int.natCast_nonneg, List.drop_zero])
            refine aCall_flat0 (ih x (sizeV_item hx) (okV_item hv hx) (d + 1) (by omega)) call54 (.cons (.refl _) (.cons (.refl _) .nil)) (by first | rfl | simp only [cloL, encV_clo, AV.clo, Bool.and_true, iA, bA, lsA_clo]) (by rfl) ?_
            try simp only [go_sem, reduceIte, reduceCtorEq, Nat.reduceLT, Nat.reduceLeDiff, Nat.reduceEqDiff, Nat.reduceAdd, Nat.reduceSub, Nat.reduceMul, Int.reduceEq, Int.reduceLT, Int.reduceLE, Int.reduceToNat, hx, hwd, List.getElem?_map, Option.map_some, le_add0, take_map_len, drop_map_len, ge0_len1, one_le_len1, Int.toNat_natCast, Int.reduceToNat, Int.toNat_one, Int.toNat_zero, Int.le_refl, Int.natCast_nonneg, List.drop_zero]
            repeat (first | (apply And.intro; · omega) | simp only [go_sem, reduceIte, reduceCtorEq, Nat.reduceLT, Nat.reduceLeDiff, Nat.reduceEqDiff, Nat.reduceAdd, Nat.reduceSub, Nat.reduceMul, Int.reduceEq, Int.reduceLT, Int.reduceLE, Int.reduceToNat, hx, hwd, List.getElem?_map, Option.map_some, le_add0, take_map_len, drop_map_len, ge0_len1, one_le_len1, Int.toNat_natCast, Int.reduceToNat, Int.toNat_one, Int.toNat_zero, Int.le_refl, Int.natCast_nonneg, List.drop_zero])
            refine hF _ ?_; clear hF F
            simp only [go_sem, reduceIte, reduceCtorEq, Nat.reduceLT, Nat.reduceLeDiff, Nat.reduceEqDiff, Nat.reduceAdd, Nat.reduceSub, Nat.reduceMul, Int.reduceEq, Int.reduceLT, Int.reduceLE, Int.reduceToNat, hx, hwd, List.getElem?_map, Option.map_some, le_add0, take_map_len, drop_map_len, ge0_len1, one_le_len1, Int.toNat_natCast, Int.reduceToNat, Int.toNat_one, Int.toNat_zero, Int.le_refl, Int.natCast_nonneg, List.drop_zero]
            refine run_seq ?_
            refine run_regS [1, 2, 6, 7, 87] (by decide) (fun F hF => ?_)
            simp only [go_sem, reduceIte, reduceCtorEq, Nat.reduceLT, Nat.reduceLeDiff, Nat.reduceEqDiff, Nat.reduceAdd, Nat.reduceSub, Nat.reduceMul, Int.reduceEq, Int.reduceLT, Int.reduceLE, Int.reduceToNat]
            refine hF _ ?_; clear hF F
            simp only [go_sem, reduceIte, reduceCtorEq, Nat.reduceLT, Nat.reduceLeDiff, Nat.reduceEqDiff, Nat.reduceAdd, Nat.reduceSub, Nat.reduceMul, Int.reduceEq, Int.reduceLT, Int.reduceLE, Int.reduceToNat]
            refine run_condA (by simp only [evL, evC, tg, reduceIte, Nat.reduceEqDiff]; rfl) (fun h87 => ?_) (fun h87 => ?_)
            · try simp only [decide_eq_true_eq, decide_eq_false_iff_not, Bool.not_eq_true', Bool.not_eq_false'] at h87
              rw [if_pos h87] at hL
              refine run_seq ?_
              refine run_regS [4] (by decide) (fun F hF => ?_)
              simp only [go_sem, reduceIte, reduceCtorEq, Nat.reduceLT, Nat.reduceLeDiff, Nat.reduceEqDiff, Nat.reduceAdd, Nat.reduceSub, Nat.reduceMul, Int.reduceEq, Int.reduceLT, Int.reduceLE, Int.reduceToNat]
              refine hF _ ?_; clear hF F
              simp only [go_sem, reduceIte, reduceCtorEq, Nat.reduceLT, Nat.reduceLeDiff, Nat.reduceEqDiff, Nat.reduceAdd, Nat.reduceSub, Nat.reduceMul, Int.reduceEq, Int.reduceLT, Int.reduceLE, Int.reduceToNat]
              refine run_ret ?_
              refine fin_ofF (.inr rfl) [] rfl ?_ (by first | rfl | rfl | simp only [AV.clo, cloL, encV_clo, Bool.and_true, iA, bA])
              try simp only [go_sem, reduceIte, reduceCtorEq, Nat.reduceLT, Nat.reduceLeDiff, Nat.reduceEqDiff, Nat.reduceAdd, Nat.reduceSub, Nat.reduceMul, Int.reduceEq, Int.reduceLT, Int.reduceLE, Int.reduceToNat, AS.den, resV_one, resV_two, resV_three, clA_nil]
              refine Le.of_eq (iA_congr ?_)
              first
              | exact hL.symm
              | exact hL0
              | exact hCV.symm
            · try simp only [decide_eq_true_eq, decide_eq_false_iff_not, Bool.not_eq_true', Bool.not_eq_false'] at h87
              rw [if_neg (by exact fun e => e h87)] at hL
              refine run_skip ?_
              refine run_blk ?_
              refine run_regS [1, 2, 6] (by decide) (fun F hF => ?_)
              simp only [go_sem, reduceIte, reduceCtorEq, Nat.reduceLT, Nat.reduceLeDiff, Nat.reduceEqDiff, Nat.reduceAdd, Nat.reduceSub, Nat.reduceMul, Int.reduceEq, Int.reduceLT, Int.reduceLE, Int.reduceToNat]
              refine hF _ ?_; clear hF F
              simp only [go_sem, reduceIte, reduceCtorEq, Nat.reduceLT, Nat.reduceLeDiff, Nat.reduceEqDiff, Nat.reduceAdd, Nat.reduceSub, Nat.reduceMul, Int.reduceEq, Int.reduceLT, Int.reduceLE, Int.reduceToNat]
              refine run_chk ?_
              exact ⟨i + 1, ⟨by omega, by rw [← hL]⟩, by omega, Sub.of_eq (by rw [IntWalk.i64_in _ (by omega)]; rfl)⟩
      · try simp only [decide_eq_true_eq, decide_eq_false_iff_not, Bool.not_eq_true', Bool.not_eq_false'] at h48
        have he : i = v.items.length := by omega
        have hL0 := hi.2
        rw [he, List.drop_length, chkL] at hL0
        refine run_exit (k' := _) rfl ?_
        refine run_seq ?_
        refine run_regS [4] (by decide) (fun F hF => ?_)
        simp only [go_sem, reduceIte, reduceCtorEq, Nat.reduceLT, Nat.reduceLeDiff, Nat.reduceEqDiff, Nat.reduceAdd, Nat.reduceSub, Nat.reduceMul, Int.reduceEq, Int.reduceLT, Int.reduceLE, Int.reduceToNat]
        refine hF _ ?_; clear hF F
        simp only [go_sem, reduceIte, reduceCtorEq, Nat.reduceLT, Nat.reduceLeDiff, Nat.reduceEqDiff, Nat.reduceAdd, Nat.reduceSub, Nat.reduceMul, Int.reduceEq, Int.reduceLT, Int.reduceLE, Int.reduceToNat]
        refine run_ret ?_
        refine fin_ofF (.inr rfl) [] rfl ?_ (by first | rfl | rfl | simp only [AV.clo, cloL, encV_clo, Bool.and_true, iA, bA])
        try simp only [go_sem, reduceIte, reduceCtorEq, Nat.reduceLT, Nat.reduceLeDiff, Nat.reduceEqDiff, Nat.reduceAdd, Nat.reduceSub, Nat.reduceMul, Int.reduceEq, Int.reduceLT, Int.reduceLE, Int.reduceToNat, AS.den, resV_one, resV_two, resV_three, clA_nil]
        refine Le.of_eq (iA_congr ?_)
        first
        | exact hL.symm
        | exact hL0
        | exact hCV.symm


theorem check54 (W : World) : ∀ (n : Nat) (v : JV), sizeV v < n → okV v → ∀ d : Int, 0 ≤ d ∧ d ≤ 65 → Pure Tryd.prog W 54 [encV v, iA d] (iA (chkV v d))
  | 0, _, h, _, _, _ => by omega
  | n + 1, v, h, hv, d, hd => check54_step W v d hd hv fun u hu hw e he => check54 W n u (by omega) hw e he

theorem check31 (W : World) (v : JV) (hv : okV v) : Pure Tryd.prog W 31 [encV v] (iA (chkV v 0)) := by
  refine pure_of_run Tryd.func31 rfl (by rw [Tryd.ntmps31]; simp) ?_
  rw [Tryd.ntmps31, st0_den]
  refine run_seq ?_
  refine run_regS [1] (by decide) (fun F hF => ?_)
  simp only [go_sem, reduceIte, reduceCtorEq, Nat.reduceLT, Nat.reduceLeDiff, Nat.reduceEqDiff, Nat.reduceAdd, Nat.reduceSub, Nat.reduceMul, Int.reduceEq, Int.reduceLT, Int.reduceLE, Int.reduceToNat]
  refine hF _ ?_; clear hF F
  simp only [go_sem, reduceIte, reduceCtorEq, Nat.reduceLT, Nat.reduceLeDiff, Nat.reduceEqDiff, Nat.reduceAdd, Nat.reduceSub, Nat.reduceMul, Int.reduceEq, Int.reduceLT, Int.reduceLE, Int.reduceToNat]
  refine run_seq ?_
  refine run_regS [2] (by decide) (fun F hF => ?_)
  simp only [go_sem, reduceIte, reduceCtorEq, Nat.reduceLT, Nat.reduceLeDiff, Nat.reduceEqDiff, Nat.reduceAdd, Nat.reduceSub, Nat.reduceMul, Int.reduceEq, Int.reduceLT, Int.reduceLE, Int.reduceToNat]
  refine aCall_flat0 (check54 W (sizeV v + 1) v (by omega) hv 0 (by omega)) call54 (.cons (.refl _) (.cons (.refl _) .nil)) (by first | rfl | simp only [cloL, encV_clo, AV.clo, Bool.and_true, iA, bA, lsA_clo]) (by rfl) ?_
  try simp only [go_sem, reduceIte, reduceCtorEq, Nat.reduceLT, Nat.reduceLeDiff, Nat.reduceEqDiff, Nat.reduceAdd, Nat.reduceSub, Nat.reduceMul, Int.reduceEq, Int.reduceLT, Int.reduceLE, Int.reduceToNat]
  refine hF _ ?_; clear hF F
  simp only [go_sem, reduceIte, reduceCtorEq, Nat.reduceLT, Nat.reduceLeDiff, Nat.reduceEqDiff, Nat.reduceAdd, Nat.reduceSub, Nat.reduceMul, Int.reduceEq, Int.reduceLT, Int.reduceLE, Int.reduceToNat]
  refine run_ret ?_
  refine fin_ofF (.inr rfl) [] rfl ?_ (by first | rfl | rfl | simp only [AV.clo, cloL, encV_clo, Bool.and_true, iA, bA])
  try simp only [go_sem, reduceIte, reduceCtorEq, Nat.reduceLT, Nat.reduceLeDiff, Nat.reduceEqDiff, Nat.reduceAdd, Nat.reduceSub, Nat.reduceMul, Int.reduceEq, Int.reduceLT, Int.reduceLE, Int.reduceToNat, AS.den, resV_one, resV_two, resV_three, clA_nil]
  exact .refl _


theorem getA_o (o : Option JV) : getA o = .tup [encV (o.getD JV.zero), bA o.isSome] := by cases o <;> rfl
theorem okV_gets : ∀ (q : List (List UInt8)) (v : JV), okV v → okV ((getV v q).getD JV.zero)
  | [], v, h => by rw [getV]; exact h
  | s :: q, v, h => by
    rw [getV]
    split
    · exact okV_cnt _ (by decide)
    · split
      · rename_i x hx
        exact okV_gets q x (okV_item h hx)
      · exact okV_cnt _ (by decide)

theorem same30 (W : World) (a b : JV) (q : List (List UInt8)) (ha : okV a) (hb : okV b) (hq : q.length ≤ 8796093021952) (he : getV a q = getV b q) : Pure Tryd.prog W 30 [encV a, encV b, .sl 1 (q.map AV.str) []] (bA true) := by
  refine pure_of_run Tryd.func30 rfl (by rw [Tryd.ntmps30]; simp) ?_
  rw [Tryd.ntmps30, st0_den]
  refine run_seq ?_
  refine run_regS [2, 3, 4] (by decide) (fun F hF => ?_)
  simp only [go_sem, reduceIte, reduceCtorEq, Nat.reduceLT, Nat.reduceLeDiff, Nat.reduceEqDiff, Nat.reduceAdd, Nat.reduceSub, Nat.reduceMul, Int.reduceEq, Int.reduceLT, Int.reduceLE, Int.reduceToNat]
  refine hF _ ?_; clear hF F
  simp only [go_sem, reduceIte, reduceCtorEq, Nat.reduceLT, Nat.reduceLeDiff, Nat.reduceEqDiff, Nat.reduceAdd, Nat.reduceSub, Nat.reduceMul, Int.reduceEq, Int.reduceLT, Int.reduceLE, Int.reduceToNat]
  refine run_seq ?_
  refine run_regS [2, 4, 7, 8] (by decide) (fun F hF => ?_)
  simp only [go_sem, reduceIte, reduceCtorEq, Nat.reduceLT, Nat.reduceLeDiff, Nat.reduceEqDiff, Nat.reduceAdd, Nat.reduceSub, Nat.reduceMul, Int.reduceEq, Int.reduceLT, Int.reduceLE, Int.reduceToNat, getA_o]
  refine aCall_pure0 (get15 W a q ha) call15 (.cons (.refl _) (.cons (.refl _) .nil)) (by first | rfl | simp only [cloL, encV_clo, AV.clo, Bool.and_true, iA, bA, lsA_clo]) ?_
  try simp only [go_sem, reduceIte, reduceCtorEq, Nat.reduceLT, Nat.reduceLeDiff, Nat.reduceEqDiff, Nat.reduceAdd, Nat.reduceSub, Nat.reduceMul, Int.reduceEq, Int.reduceLT, Int.reduceLE, Int.reduceToNat, getA_o]
  refine hF _ ?_; clear hF F
  simp only [go_sem, reduceIte, reduceCtorEq, Nat.reduceLT, Nat.reduceLeDiff, Nat.reduceEqDiff, Nat.reduceAdd, Nat.reduceSub, Nat.reduceMul, Int.reduceEq, Int.reduceLT, Int.reduceLE, Int.reduceToNat, getA_o]
  refine run_seq ?_
  refine run_regS [7, 8, 9, 10] (by decide) (fun F hF => ?_)
  simp only [go_sem, reduceIte, reduceCtorEq, Nat.reduceLT, Nat.reduceLeDiff, Nat.reduceEqDiff, Nat.reduceAdd, Nat.reduceSub, Nat.reduceMul, Int.reduceEq, Int.reduceLT, Int.reduceLE, Int.reduceToNat, getA_o]
  refine aCall_pure0 (get15 W b q hb) call15 (.cons (.refl _) (.cons (.refl _) .nil)) (by first | rfl | simp only [cloL, encV_clo, AV.clo, Bool.and_true, iA, bA, lsA_clo]) ?_
  try simp only [go_sem, reduceIte, reduceCtorEq, Nat.reduceLT, Nat.reduceLeDiff, Nat.reduceEqDiff, Nat.reduceAdd, Nat.reduceSub, Nat.reduceMul, Int.reduceEq, Int.reduceLT, Int.reduceLE, Int.reduceToNat, getA_o]
  refine hF _ ?_; clear hF F
  simp only [go_sem, reduceIte, reduceCtorEq, Nat.reduceLT, Nat.reduceLeDiff, Nat.reduceEqDiff, Nat.reduceAdd, Nat.reduceSub, Nat.reduceMul, Int.reduceEq, Int.reduceLT, Int.reduceLE, Int.reduceToNat, getA_o]
  refine run_seq ?_
  refine run_regS [6] (by decide) (fun F hF => ?_)
  simp only [go_sem, reduceIte, reduceCtorEq, Nat.reduceLT, Nat.reduceLeDiff, Nat.reduceEqDiff, Nat.reduceAdd, Nat.reduceSub, Nat.reduceMul, Int.reduceEq, Int.reduceLT, Int.reduceLE, Int.reduceToNat, he, beq_self_eq_true, eqV_true]
  repeat (first | (apply And.intro; · omega) | simp only [go_sem, reduceIte, reduceCtorEq, Nat.reduceLT, Nat.reduceLeDiff, Nat.reduceEqDiff, Nat.reduceAdd, Nat.reduceSub, Nat.reduceMul, Int.reduceEq, Int.reduceLT, Int.reduceLE, Int.reduceToNat, he, beq_self_eq_true, eqV_true])
  refine aCall_flat0 (equal19 W _ _ (okV_gets q b hb) (okV_gets q b hb)) call19 (.cons (.refl _) (.cons (.refl _) .nil)) (by first | rfl | simp only [cloL, encV_clo, AV.clo, Bool.and_true, iA, bA, lsA_clo]) (by rfl) ?_
  try simp only [go_sem, reduceIte, reduceCtorEq, Nat.reduceLT, Nat.reduceLeDiff, Nat.reduceEqDiff, Nat.reduceAdd, Nat.reduceSub, Nat.reduceMul, Int.reduceEq, Int.reduceLT, Int.reduceLE, Int.reduceToNat, he, beq_self_eq_true, eqV_true]
  repeat (first | (apply And.intro; · omega) | simp only [go_sem, reduceIte, reduceCtorEq, Nat.reduceLT, Nat.reduceLeDiff, Nat.reduceEqDiff, Nat.reduceAdd, Nat.reduceSub, Nat.reduceMul, Int.reduceEq, Int.reduceLT, Int.reduceLE, Int.reduceToNat, he, beq_self_eq_true, eqV_true])
  refine hF _ ?_; clear hF F
  simp only [go_sem, reduceIte, reduceCtorEq, Nat.reduceLT, Nat.reduceLeDiff, Nat.reduceEqDiff, Nat.reduceAdd, Nat.reduceSub, Nat.reduceMul, Int.reduceEq, Int.reduceLT, Int.reduceLE, Int.reduceToNat, he, beq_self_eq_true, eqV_true]
  refine run_ret ?_
  refine fin_ofF (.inr rfl) [] rfl ?_ (by first | rfl | rfl | simp only [AV.clo, cloL, encV_clo, Bool.and_true, iA, bA])
  try simp only [go_sem, reduceIte, reduceCtorEq, Nat.reduceLT, Nat.reduceLeDiff, Nat.reduceEqDiff, Nat.reduceAdd, Nat.reduceSub, Nat.reduceMul, Int.reduceEq, Int.reduceLT, Int.reduceLE, Int.reduceToNat, AS.den, resV_one, resV_two, resV_three, clA_nil]
  exact .refl _
end Go.Ab

