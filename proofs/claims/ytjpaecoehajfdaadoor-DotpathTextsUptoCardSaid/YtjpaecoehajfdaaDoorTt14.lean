/- What is proved: contracts of functions of this translation, walked; their plain meaning. No condition beyond those that each theorem names. -/
import Derived.Test.YtjpaecoehajfdaaDoorTt13
set_option linter.all false
namespace Go.Ab
open Go Go.Proofs

set_option maxRecDepth 4000
set_option maxHeartbeats 1000000


def pathL : List (List UInt8) := [[97], [98]]
def emptyJ : JV := .mk ⟨6, 0, [], []⟩ []
def liveJ : JV := .mk ⟨6, 0, [], [[97]]⟩ [.mk ⟨6, 0, [], [[98]]⟩ [numJ 7]]
def goneJ : JV := .mk ⟨6, 0, [], [[97]]⟩ [.mk ⟨6, 0, [], []⟩ []]
def pathA : AV := .sl 1 [.str [97], .str [98]] []

theorem parse_live (W : World) : Pure Tryd.prog W 40 [.str [97, 46, 98]] (.tup [pathA, iA 0, iA 0]) := Parse40 W [97, 46, 98] (by decide)
theorem set_live (W : World) : Pure Tryd.prog W 23 [encV emptyJ, pathA, encV (numJ 7)] (.tup [encV liveJ, iA 0]) := set23 W (numJ 7) pathL emptyJ (by decide) (by decide)
theorem get_live (W : World) : Pure Tryd.prog W 15 [encV liveJ, pathA] (.tup [encV (numJ 7), bA true]) := get15 W liveJ pathL (okV_cnt _ (by decide))
theorem unset_live (W : World) : Pure Tryd.prog W 25 [encV liveJ, pathA] (.tup [encV goneJ, bA true]) := unset25 W pathL liveJ (by decide)
theorem get_gone (W : World) : Pure Tryd.prog W 15 [encV goneJ, pathA] (.tup [encV JV.zero, bA false]) := get15 W goneJ pathL (okV_cnt _ (by decide))
theorem all_live (W : World) : Pure Tryd.prog W 17 [encV liveJ, pathA] (.sl 5 [encV (numJ 7)] []) := all17 W 5 liveJ pathL (by decide) (okV_cnt _ (by decide)) (by decide)
theorem clash_live1 (W : World) : Pure Tryd.prog W 36 [pathA, .sl 1 [.str [97]] []] (bA true) := clash36 W pathL [[97]] (by decide) (by decide)
theorem clash_live2 (W : World) : Pure Tryd.prog W 36 [pathA, .sl 1 [.str [98]] []] (bA false) := clash36 W pathL [[98]] (by decide) (by decide)
theorem le_empty : Le (.agg [.val (.int .i64 6), .val (.int .i64 0), .str [], .val (.slice none 0 0), .val (.slice none 0 0)]) (encV emptyJ) := by
  rw [emptyJ, encV_mk]
  exact .agg (.cons (.refl _) (.cons (.refl _) (.cons (.refl _) (.cons (.nil 1) (.cons (.nil 5) .nil)))))
theorem numJ_int (n : Int) : (numJ n).int = n := rfl


theorem live12 (W : World)  : Pure Tryd.prog W 12 [] (bA true) := by
  refine pure_of_run Tryd.func12 rfl (by rw [Tryd.ntmps12]; simp) ?_
  rw [Tryd.ntmps12, st0_den]
  refine run_seq ?_
  refine run_regS [] (by decide) (fun F hF => ?_)
  simp only [go_sem, reduceIte, reduceCtorEq, Nat.reduceLT, Nat.reduceLeDiff, Nat.reduceEqDiff, Nat.reduceAdd, Nat.reduceSub, Nat.reduceMul, Int.reduceEq, Int.reduceLT, Int.reduceLE, Int.reduceToNat, pathA, numJ_int, Int.cast_ofNat_Int]
  refine hF _ ?_; clear hF F
  simp only [go_sem, reduceIte, reduceCtorEq, Nat.reduceLT, Nat.reduceLeDiff, Nat.reduceEqDiff, Nat.reduceAdd, Nat.reduceSub, Nat.reduceMul, Int.reduceEq, Int.reduceLT, Int.reduceLE, Int.reduceToNat, pathA, numJ_int, Int.cast_ofNat_Int]
  refine run_seq ?_
  refine run_regS [1, 2] (by decide) (fun F hF => ?_)
  simp only [go_sem, reduceIte, reduceCtorEq, Nat.reduceLT, Nat.reduceLeDiff, Nat.reduceEqDiff, Nat.reduceAdd, Nat.reduceSub, Nat.reduceMul, Int.reduceEq, Int.reduceLT, Int.reduceLE, Int.reduceToNat, pathA, numJ_int, Int.cast_ofNat_Int]
  refine aCall_pure0 (parse_live W) call40 (.cons (.refl _) .nil) (by first | rfl | simp only [cloL, encV_clo, AV.clo, Bool.and_true, iA, bA, lsA_clo]) ?_
  try simp only [go_sem, reduceIte, reduceCtorEq, Nat.reduceLT, Nat.reduceLeDiff, Nat.reduceEqDiff, Nat.reduceAdd, Nat.reduceSub, Nat.reduceMul, Int.reduceEq, Int.reduceLT, Int.reduceLE, Int.reduceToNat, pathA, numJ_int, Int.cast_ofNat_Int]
  refine hF _ ?_; clear hF F
  simp only [go_sem, reduceIte, reduceCtorEq, Nat.reduceLT, Nat.reduceLeDiff, Nat.reduceEqDiff, Nat.reduceAdd, Nat.reduceSub, Nat.reduceMul, Int.reduceEq, Int.reduceLT, Int.reduceLE, Int.reduceToNat, pathA, numJ_int, Int.cast_ofNat_Int]
  refine run_seq ?_
  refine run_regS [1, 2, 4, 5] (by decide) (fun F hF => ?_)
  simp only [go_sem, reduceIte, reduceCtorEq, Nat.reduceLT, Nat.reduceLeDiff, Nat.reduceEqDiff, Nat.reduceAdd, Nat.reduceSub, Nat.reduceMul, Int.reduceEq, Int.reduceLT, Int.reduceLE, Int.reduceToNat, pathA, numJ_int, Int.cast_ofNat_Int]
  refine aCall_pure0 (number22 W 7) call22 (.cons (.refl _) .nil) (by first | rfl | simp only [cloL, encV_clo, AV.clo, Bool.and_true, iA, bA, lsA_clo]) ?_
  try simp only [go_sem, reduceIte, reduceCtorEq, Nat.reduceLT, Nat.reduceLeDiff, Nat.reduceEqDiff, Nat.reduceAdd, Nat.reduceSub, Nat.reduceMul, Int.reduceEq, Int.reduceLT, Int.reduceLE, Int.reduceToNat, pathA, numJ_int, Int.cast_ofNat_Int]
  refine aCall_pure0 (set_live W) call23 (.cons le_empty (.cons (.refl _) (.cons (.refl _) .nil))) (by first | rfl | simp only [cloL, encV_clo, AV.clo, Bool.and_true, iA, bA, lsA_clo]) ?_
  try simp only [go_sem, reduceIte, reduceCtorEq, Nat.reduceLT, Nat.reduceLeDiff, Nat.reduceEqDiff, Nat.reduceAdd, Nat.reduceSub, Nat.reduceMul, Int.reduceEq, Int.reduceLT, Int.reduceLE, Int.reduceToNat, pathA, numJ_int, Int.cast_ofNat_Int]
  refine hF _ ?_; clear hF F
  simp only [go_sem, reduceIte, reduceCtorEq, Nat.reduceLT, Nat.reduceLeDiff, Nat.reduceEqDiff, Nat.reduceAdd, Nat.reduceSub, Nat.reduceMul, Int.reduceEq, Int.reduceLT, Int.reduceLE, Int.reduceToNat, pathA, numJ_int, Int.cast_ofNat_Int]
  refine run_seq ?_
  refine run_regS [1, 2, 4, 5, 6, 7] (by decide) (fun F hF => ?_)
  simp only [go_sem, reduceIte, reduceCtorEq, Nat.reduceLT, Nat.reduceLeDiff, Nat.reduceEqDiff, Nat.reduceAdd, Nat.reduceSub, Nat.reduceMul, Int.reduceEq, Int.reduceLT, Int.reduceLE, Int.reduceToNat, pathA, numJ_int, Int.cast_ofNat_Int]
  refine aCall_pure0 (get_live W) call15 (.cons (.refl _) (.cons (.refl _) .nil)) (by first | rfl | simp only [cloL, encV_clo, AV.clo, Bool.and_true, iA, bA, lsA_clo]) ?_
  try simp only [go_sem, reduceIte, reduceCtorEq, Nat.reduceLT, Nat.reduceLeDiff, Nat.reduceEqDiff, Nat.reduceAdd, Nat.reduceSub, Nat.reduceMul, Int.reduceEq, Int.reduceLT, Int.reduceLE, Int.reduceToNat, pathA, numJ_int, Int.cast_ofNat_Int]
  refine hF _ ?_; clear hF F
  simp only [go_sem, reduceIte, reduceCtorEq, Nat.reduceLT, Nat.reduceLeDiff, Nat.reduceEqDiff, Nat.reduceAdd, Nat.reduceSub, Nat.reduceMul, Int.reduceEq, Int.reduceLT, Int.reduceLE, Int.reduceToNat, pathA, numJ_int, Int.cast_ofNat_Int]
  refine run_seq ?_
  refine run_regS [1, 2, 4, 5, 6, 7, 8, 9] (by decide) (fun F hF => ?_)
  simp only [go_sem, reduceIte, reduceCtorEq, Nat.reduceLT, Nat.reduceLeDiff, Nat.reduceEqDiff, Nat.reduceAdd, Nat.reduceSub, Nat.reduceMul, Int.reduceEq, Int.reduceLT, Int.reduceLE, Int.reduceToNat, pathA, numJ_int, Int.cast_ofNat_Int]
  refine aCall_pure0 (unset_live W) call25 (.cons (.refl _) (.cons (.refl _) .nil)) (by first | rfl | simp only [cloL, encV_clo, AV.clo, Bool.and_true, iA, bA, lsA_clo]) ?_
  try simp only [go_sem, reduceIte, reduceCtorEq, Nat.reduceLT, Nat.reduceLeDiff, Nat.reduceEqDiff, Nat.reduceAdd, Nat.reduceSub, Nat.reduceMul, Int.reduceEq, Int.reduceLT, Int.reduceLE, Int.reduceToNat, pathA, numJ_int, Int.cast_ofNat_Int]
  refine hF _ ?_; clear hF F
  simp only [go_sem, reduceIte, reduceCtorEq, Nat.reduceLT, Nat.reduceLeDiff, Nat.reduceEqDiff, Nat.reduceAdd, Nat.reduceSub, Nat.reduceMul, Int.reduceEq, Int.reduceLT, Int.reduceLE, Int.reduceToNat, pathA, numJ_int, Int.cast_ofNat_Int]
  refine run_seq ?_
  refine run_regS [1, 2, 4, 5, 6, 7, 9, 11] (by decide) (fun F hF => ?_)
  simp only [go_sem, reduceIte, reduceCtorEq, Nat.reduceLT, Nat.reduceLeDiff, Nat.reduceEqDiff, Nat.reduceAdd, Nat.reduceSub, Nat.reduceMul, Int.reduceEq, Int.reduceLT, Int.reduceLE, Int.reduceToNat, pathA, numJ_int, Int.cast_ofNat_Int]
  refine aCall_pure0 (get_gone W) call15 (.cons (.refl _) (.cons (.refl _) .nil)) (by first | rfl | simp only [cloL, encV_clo, AV.clo, Bool.and_true, iA, bA, lsA_clo]) ?_
  try simp only [go_sem, reduceIte, reduceCtorEq, Nat.reduceLT, Nat.reduceLeDiff, Nat.reduceEqDiff, Nat.reduceAdd, Nat.reduceSub, Nat.reduceMul, Int.reduceEq, Int.reduceLT, Int.reduceLE, Int.reduceToNat, pathA, numJ_int, Int.cast_ofNat_Int]
  refine hF _ ?_; clear hF F
  simp only [go_sem, reduceIte, reduceCtorEq, Nat.reduceLT, Nat.reduceLeDiff, Nat.reduceEqDiff, Nat.reduceAdd, Nat.reduceSub, Nat.reduceMul, Int.reduceEq, Int.reduceLT, Int.reduceLE, Int.reduceToNat, pathA, numJ_int, Int.cast_ofNat_Int]
  refine run_seq ?_
  refine run_regS [1, 9, 11, 12] (by decide) (fun F hF => ?_)
  simp only [go_sem, reduceIte, reduceCtorEq, Nat.reduceLT, Nat.reduceLeDiff, Nat.reduceEqDiff, Nat.reduceAdd, Nat.reduceSub, Nat.reduceMul, Int.reduceEq, Int.reduceLT, Int.reduceLE, Int.reduceToNat, pathA, numJ_int, Int.cast_ofNat_Int]
  refine aCall_flat0 (num27 W 0) call27 (.cons (.refl _) .nil) (by first | rfl | simp only [cloL, encV_clo, AV.clo, Bool.and_true, iA, bA, lsA_clo]) (by rfl) ?_
  try simp only [go_sem, reduceIte, reduceCtorEq, Nat.reduceLT, Nat.reduceLeDiff, Nat.reduceEqDiff, Nat.reduceAdd, Nat.reduceSub, Nat.reduceMul, Int.reduceEq, Int.reduceLT, Int.reduceLE, Int.reduceToNat, pathA, numJ_int, Int.cast_ofNat_Int]
  refine aCall_flat0 (num27 W 0) call27 (.cons (.refl _) .nil) (by first | rfl | simp only [cloL, encV_clo, AV.clo, Bool.and_true, iA, bA, lsA_clo]) (by rfl) ?_
  try simp only [go_sem, reduceIte, reduceCtorEq, Nat.reduceLT, Nat.reduceLeDiff, Nat.reduceEqDiff, Nat.reduceAdd, Nat.reduceSub, Nat.reduceMul, Int.reduceEq, Int.reduceLT, Int.reduceLE, Int.reduceToNat, pathA, numJ_int, Int.cast_ofNat_Int]
  refine aCall_pure0 (all_live W) call17 (.cons (.refl _) (.cons (.refl _) .nil)) (by first | rfl | simp only [cloL, encV_clo, AV.clo, Bool.and_true, iA, bA, lsA_clo]) ?_
  try simp only [go_sem, reduceIte, reduceCtorEq, Nat.reduceLT, Nat.reduceLeDiff, Nat.reduceEqDiff, Nat.reduceAdd, Nat.reduceSub, Nat.reduceMul, Int.reduceEq, Int.reduceLT, Int.reduceLE, Int.reduceToNat, pathA, numJ_int, Int.cast_ofNat_Int]
  refine hF _ ?_; clear hF F
  simp only [go_sem, reduceIte, reduceCtorEq, Nat.reduceLT, Nat.reduceLeDiff, Nat.reduceEqDiff, Nat.reduceAdd, Nat.reduceSub, Nat.reduceMul, Int.reduceEq, Int.reduceLT, Int.reduceLE, Int.reduceToNat, pathA, numJ_int, Int.cast_ofNat_Int]
  refine run_seq ?_
  refine run_regS [0] (by decide) (fun F hF => ?_)
  simp only [go_sem, reduceIte, reduceCtorEq, Nat.reduceLT, Nat.reduceLeDiff, Nat.reduceEqDiff, Nat.reduceAdd, Nat.reduceSub, Nat.reduceMul, Int.reduceEq, Int.reduceLT, Int.reduceLE, Int.reduceToNat, pathA, numJ_int, Int.cast_ofNat_Int]
  repeat (first | (apply And.intro; · omega) | simp only [go_sem, reduceIte, reduceCtorEq, Nat.reduceLT, Nat.reduceLeDiff, Nat.reduceEqDiff, Nat.reduceAdd, Nat.reduceSub, Nat.reduceMul, Int.reduceEq, Int.reduceLT, Int.reduceLE, Int.reduceToNat, pathA, numJ_int, Int.cast_ofNat_Int])
  refine aCall_flat0 (clash_live1 W) call36 (.cons (.refl _) (.cons (.rest _ _ _) .nil)) (by first | rfl | simp only [cloL, encV_clo, AV.clo, Bool.and_true, iA, bA, lsA_clo]) (by rfl) ?_
  try simp only [go_sem, reduceIte, reduceCtorEq, Nat.reduceLT, Nat.reduceLeDiff, Nat.reduceEqDiff, Nat.reduceAdd, Nat.reduceSub, Nat.reduceMul, Int.reduceEq, Int.reduceLT, Int.reduceLE, Int.reduceToNat, pathA, numJ_int, Int.cast_ofNat_Int]
  refine aCall_flatF [82] (clash_live2 W) call36 (by simp only [pickF, pickO, hg, reduceIte, Nat.reduceEqDiff, clL, clA, lk, encV_clA, clA_nil, Nat.zero_add, Nat.add_zero, Nat.reduceAdd, Nat.reduceLeDiff, Nat.le_refl, List.length_cons, List.length_nil, List.length_map, List.drop_zero, List.take_succ_cons, List.take_zero, List.take_nil, take_map_len]; exact (.cons (.refl _) (.cons (.refl _) .nil))) (by first | rfl | simp only [cloL, encV_clo, AV.clo, Bool.and_true, iA, bA, lsA_clo]) (by rfl) ?_
  try simp only [go_sem, reduceIte, reduceCtorEq, Nat.reduceLT, Nat.reduceLeDiff, Nat.reduceEqDiff, Nat.reduceAdd, Nat.reduceSub, Nat.reduceMul, Int.reduceEq, Int.reduceLT, Int.reduceLE, Int.reduceToNat, pathA, numJ_int, Int.cast_ofNat_Int]
  refine hF _ ?_; clear hF F
  simp only [go_sem, reduceIte, reduceCtorEq, Nat.reduceLT, Nat.reduceLeDiff, Nat.reduceEqDiff, Nat.reduceAdd, Nat.reduceSub, Nat.reduceMul, Int.reduceEq, Int.reduceLT, Int.reduceLE, Int.reduceToNat, pathA, numJ_int, Int.cast_ofNat_Int]
  refine run_ret ?_
  refine fin_ofF (.inr rfl) [] rfl ?_ (by first | rfl | rfl | simp only [AV.clo, cloL, encV_clo, Bool.and_true, iA, bA])
  try simp only [go_sem, reduceIte, reduceCtorEq, Nat.reduceLT, Nat.reduceLeDiff, Nat.reduceEqDiff, Nat.reduceAdd, Nat.reduceSub, Nat.reduceMul, Int.reduceEq, Int.reduceLT, Int.reduceLE, Int.reduceToNat, AS.den, resV_one, resV_two, resV_three, clA_nil]
  exact .refl _
end Go.Ab

