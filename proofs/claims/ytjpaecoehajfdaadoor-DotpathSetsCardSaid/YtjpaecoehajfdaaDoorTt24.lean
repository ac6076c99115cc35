/- What is proved: contracts of functions of this translation, walked; their plain meaning. No condition beyond those that each theorem names. -/
import Derived.Test.YtjpaecoehajfdaaDoorTt22
set_option linter.all false
namespace Go.Ab
open Go Go.Proofs

set_option maxRecDepth 4000
set_option maxHeartbeats 1000000


theorem unsetV_up {v y : JV} {s : List UInt8} {p : List (List UInt8)} (h : 0 ≤ v.child s) (hp : ¬ p = []) (hy : v.items[(v.child s).toNat]? = some y) (hu : (unsetV p y).2 = false) : unsetV (s :: p) v = (v, false) := by
  cases g : getV v (s :: p) with
  | none => exact unsetV_none g
  | some z =>
    exfalso
    rw [getV_step h hy] at g
    cases p with
    | nil => exact hp rfl
    | cons t q =>
      rw [unsetV, g] at hu
      simp only at hu
      split at hu
      · split at hu <;> cases hu
      · split at hu
        · cases hu
        · rename_i hn
          have hc := getV_child g
          obtain ⟨w, hw⟩ := child_get (j := y) (s := t) (by omega)
          rw [hw] at hn; cases hn
theorem unsetV_dn {v y : JV} {s : List UInt8} {p : List (List UInt8)} (h : 0 ≤ v.child s) (hp : ¬ p = []) (hy : v.items[(v.child s).toNat]? = some y) (hu : (unsetV p y).2 = true) : unsetV (s :: p) v = (v.put (v.child s).toNat (unsetV p y).1, true) := by
  cases g : getV v (s :: p) with
  | none =>
    exfalso
    rw [getV_step h hy] at g
    rw [unsetV_false p y (.inr g)] at hu; cases hu
  | some z => exact unsetV_down g hp hy
theorem le_cut2 {α : Type} (f : α → AV) (n k m : Nat) (l : List α) (c : Int) (h0 : 0 ≤ c) (hi : c < m) (hm : m ≤ l.length) :
    Le (if min c.toNat m + min (m - (c + 1).toNat) (m - (c + 1).toNat) ≤ (((l.map f).take m |>.take c.toNat).take (min c.toNat m)).length + ((((l.map f).take m).drop (c + 1).toNat).take (m - (c + 1).toNat)).length then
        .sl n ((((l.map f).take m |>.take c.toNat).take (min c.toNat m) ++ (((l.map f).take m).drop (c + 1).toNat).take (m - (c + 1).toNat)).take (min c.toNat m + min (m - (c + 1).toNat) (m - (c + 1).toNat))) []
      else .gs k 0 (min c.toNat m + min (m - (c + 1).toNat) (m - (c + 1).toNat))) (.sl n (((l.take m).take c.toNat ++ (l.take m).drop (c.toNat + 1)).map f) []) := by
  rw [← List.length_append]
  obtain ⟨i, rfl⟩ := Int.eq_ofNat_of_zero_le h0
  have e1 : ((i : Int) + 1).toNat = i + 1 := by omega
  have e2 : (i : Int).toNat = i := by omega
  have e4 : min i m = i := by omega
  have hl : ((l.map f).take m).length = m := by simp; omega
  have e3 : (((l.map f).take m).take i).take i ++ (((l.map f).take m).drop (i + 1)).take (m - (i + 1)) = ((l.take m).take i ++ (l.take m).drop (i + 1)).map f := by
    rw [List.take_take, Nat.min_self, List.take_of_length_le (l := ((l.map f).take m).drop (i + 1)) (by rw [List.length_drop, hl]; exact Nat.le_refl _), List.map_append, List.map_take, List.map_take, List.map_drop, List.map_take]
  rw [e1, e2, e4, e3]
  rw [if_pos (by simp; omega), take_all _ _ (by simp; omega)]
  exact .refl _
theorem getV_one {v y : JV} {s : List UInt8} (h : 0 ≤ v.child s) (hy : v.items[(v.child s).toNat]? = some y) : getV v [s] = some y := by rw [getV_step h hy, getV]


theorem runset26_nil (W : World) (v : JV) : Pure Tryd.prog W 26 [encV v, .sl 1 [] []] (unA (unsetV [] v)) := by
  refine pure_of_run Tryd.func26 rfl (by rw [Tryd.ntmps26]; simp) ?_
  rw [Tryd.ntmps26, st0_den]
  refine run_seq ?_
  refine run_regS [1, 2, 4] (by decide) (fun F hF => ?_)
  simp only [go_sem, reduceIte, reduceCtorEq, Nat.reduceLT, Nat.reduceLeDiff, Nat.reduceEqDiff, Nat.reduceAdd, Nat.reduceSub, Nat.reduceMul, Int.reduceEq, Int.reduceLT, Int.reduceLE, Int.reduceToNat]
  refine hF _ ?_; clear hF F
  simp only [go_sem, reduceIte, reduceCtorEq, Nat.reduceLT, Nat.reduceLeDiff, Nat.reduceEqDiff, Nat.reduceAdd, Nat.reduceSub, Nat.reduceMul, Int.reduceEq, Int.reduceLT, Int.reduceLE, Int.reduceToNat]
  refine run_seq ?_
  refine run_seq ?_
  refine run_regS [1, 2, 4, 12] (by decide) (fun F hF => ?_)
  simp only [go_sem, reduceIte, reduceCtorEq, Nat.reduceLT, Nat.reduceLeDiff, Nat.reduceEqDiff, Nat.reduceAdd, Nat.reduceSub, Nat.reduceMul, Int.reduceEq, Int.reduceLT, Int.reduceLE, Int.reduceToNat]
  refine hF _ ?_; clear hF F
  simp only [go_sem, reduceIte, reduceCtorEq, Nat.reduceLT, Nat.reduceLeDiff, Nat.reduceEqDiff, Nat.reduceAdd, Nat.reduceSub, Nat.reduceMul, Int.reduceEq, Int.reduceLT, Int.reduceLE, Int.reduceToNat]
  refine run_condA (by simp only [evL, evC, tg, reduceIte, Nat.reduceEqDiff]; rfl) (fun h12 => ?_) (fun h12 => ?_)
  · try simp only [decide_eq_true_eq, decide_eq_false_iff_not, Bool.not_eq_true', Bool.not_eq_false'] at h12
    refine run_seq ?_
    refine run_regS [4, 5] (by decide) (fun F hF => ?_)
    simp only [go_sem, reduceIte, reduceCtorEq, Nat.reduceLT, Nat.reduceLeDiff, Nat.reduceEqDiff, Nat.reduceAdd, Nat.reduceSub, Nat.reduceMul, Int.reduceEq, Int.reduceLT, Int.reduceLE, Int.reduceToNat]
    refine hF _ ?_; clear hF F
    simp only [go_sem, reduceIte, reduceCtorEq, Nat.reduceLT, Nat.reduceLeDiff, Nat.reduceEqDiff, Nat.reduceAdd, Nat.reduceSub, Nat.reduceMul, Int.reduceEq, Int.reduceLT, Int.reduceLE, Int.reduceToNat]
    refine run_ret ?_
    refine fin_ofF (.inr rfl) [] (show resVL _ _ [.cell 4 25, .tmp 5] = some _ from by simp only [go_sem, reduceIte, reduceCtorEq, Nat.reduceLT, Nat.reduceLeDiff, Nat.reduceEqDiff, Nat.reduceAdd, Nat.reduceSub, Nat.reduceMul, Int.reduceEq, Int.reduceLT, Int.reduceLE, Int.reduceToNat, resVL, resV1, AS.den, ldT_ty]; rfl) ?_ (by first | rfl | exact unA_clo _ | simp only [AV.clo, cloL, encV_clo, Bool.and_true, iA, bA])
    try simp only [go_sem, reduceIte, reduceCtorEq, Nat.reduceLT, Nat.reduceLeDiff, Nat.reduceEqDiff, Nat.reduceAdd, Nat.reduceSub, Nat.reduceMul, Int.reduceEq, Int.reduceLT, Int.reduceLE, Int.reduceToNat, AS.den, resV_one, resV_two, resV_three, clA_nil]
    exact .refl _
  · try simp only [decide_eq_true_eq, decide_eq_false_iff_not, Bool.not_eq_true', Bool.not_eq_false'] at h12
    exact absurd rfl h12

theorem runset26_no (W : World) (v : JV) (s : List UInt8) (p : List (List UInt8)) (hc : cntV v ≤ 2 ^ 30) (hch : v.child s < 0) : Pure Tryd.prog W 26 [encV v, .sl 1 ((s :: p).map AV.str) []] (unA (unsetV (s :: p) v)) := by
  refine pure_of_run Tryd.func26 rfl (by rw [Tryd.ntmps26]; simp) ?_
  rw [Tryd.ntmps26, st0_den]
  refine run_seq ?_
  refine run_regS [1, 2, 4] (by decide) (fun F hF => ?_)
  simp only [go_sem, reduceIte, reduceCtorEq, Nat.reduceLT, Nat.reduceLeDiff, Nat.reduceEqDiff, Nat.reduceAdd, Nat.reduceSub, Nat.reduceMul, Int.reduceEq, Int.reduceLT, Int.reduceLE, Int.reduceToNat]
  refine hF _ ?_; clear hF F
  simp only [go_sem, reduceIte, reduceCtorEq, Nat.reduceLT, Nat.reduceLeDiff, Nat.reduceEqDiff, Nat.reduceAdd, Nat.reduceSub, Nat.reduceMul, Int.reduceEq, Int.reduceLT, Int.reduceLE, Int.reduceToNat]
  refine run_seq ?_
  refine run_seq ?_
  refine run_regS [1, 2, 4, 12] (by decide) (fun F hF => ?_)
  simp only [go_sem, reduceIte, reduceCtorEq, Nat.reduceLT, Nat.reduceLeDiff, Nat.reduceEqDiff, Nat.reduceAdd, Nat.reduceSub, Nat.reduceMul, Int.reduceEq, Int.reduceLT, Int.reduceLE, Int.reduceToNat]
  refine hF _ ?_; clear hF F
  simp only [go_sem, reduceIte, reduceCtorEq, Nat.reduceLT, Nat.reduceLeDiff, Nat.reduceEqDiff, Nat.reduceAdd, Nat.reduceSub, Nat.reduceMul, Int.reduceEq, Int.reduceLT, Int.reduceLE, Int.reduceToNat]
  refine run_condA (by simp only [evL, evC, tg, reduceIte, Nat.reduceEqDiff]; rfl) (fun h12 => ?_) (fun h12 => ?_)
  · try simp only [decide_eq_true_eq, decide_eq_false_iff_not, Bool.not_eq_true', Bool.not_eq_false'] at h12
    exfalso; omega
  · try simp only [decide_eq_true_eq, decide_eq_false_iff_not, Bool.not_eq_true', Bool.not_eq_false'] at h12
    refine run_skip ?_
    refine run_seq ?_
    refine run_regD [1, 2, 4, 6] (by decide) mixed0 (by decide) (fun F hF => ?_)
    simp only [go_sem, reduceIte, reduceCtorEq, Nat.reduceLT, Nat.reduceLeDiff, Nat.reduceEqDiff, Nat.reduceAdd, Nat.reduceSub, Nat.reduceMul, Int.reduceEq, Int.reduceLT, Int.reduceLE, Int.reduceToNat, le_add0, take_map_len, drop_map_len, ge0_len1, one_le_len1, Int.toNat_natCast, Int.reduceToNat, Int.toNat_one, Int.toNat_zero, Int.le_refl, Int.natCast_nonneg, List.drop_zero]
    refine aCall_flat0 (place47 W v s (okV_names (okV_cnt v hc))) call47 (.cons (.refl _) (.cons (.refl _) .nil)) (by first | rfl | simp only [cloL, encV_clo, AV.clo, Bool.and_true, iA, bA, lsA_clo]) (by rfl) ?_
    try simp only [go_sem, reduceIte, reduceCtorEq, Nat.reduceLT, Nat.reduceLeDiff, Nat.reduceEqDiff, Nat.reduceAdd, Nat.reduceSub, Nat.reduceMul, Int.reduceEq, Int.reduceLT, Int.reduceLE, Int.reduceToNat, le_add0, take_map_len, drop_map_len, ge0_len1, one_le_len1, Int.toNat_natCast, Int.reduceToNat, Int.toNat_one, Int.toNat_zero, Int.le_refl, Int.natCast_nonneg, List.drop_zero]
    refine ⟨by decide, ?_⟩
    refine hF _ ?_; clear hF F
    simp only [go_sem, reduceIte, reduceCtorEq, Nat.reduceLT, Nat.reduceLeDiff, Nat.reduceEqDiff, Nat.reduceAdd, Nat.reduceSub, Nat.reduceMul, Int.reduceEq, Int.reduceLT, Int.reduceLE, Int.reduceToNat, le_add0, take_map_len, drop_map_len, ge0_len1, one_le_len1, Int.toNat_natCast, Int.reduceToNat, Int.toNat_one, Int.toNat_zero, Int.le_refl, Int.natCast_nonneg, List.drop_zero]
    refine run_seq ?_
    refine run_seq ?_
    refine run_regS [1, 2, 4, 6, 20] (by decide) (fun F hF => ?_)
    simp only [go_sem, reduceIte, reduceCtorEq, Nat.reduceLT, Nat.reduceLeDiff, Nat.reduceEqDiff, Nat.reduceAdd, Nat.reduceSub, Nat.reduceMul, Int.reduceEq, Int.reduceLT, Int.reduceLE, Int.reduceToNat]
    refine hF _ ?_; clear hF F
    simp only [go_sem, reduceIte, reduceCtorEq, Nat.reduceLT, Nat.reduceLeDiff, Nat.reduceEqDiff, Nat.reduceAdd, Nat.reduceSub, Nat.reduceMul, Int.reduceEq, Int.reduceLT, Int.reduceLE, Int.reduceToNat]
    refine run_condA (by simp only [evL, evC, tg, reduceIte, Nat.reduceEqDiff]; rfl) (fun h20 => ?_) (fun h20 => ?_)
    · try simp only [decide_eq_true_eq, decide_eq_false_iff_not, Bool.not_eq_true', Bool.not_eq_false'] at h20
      refine run_seq ?_
      refine run_regS [4, 5] (by decide) (fun F hF => ?_)
      simp only [go_sem, reduceIte, reduceCtorEq, Nat.reduceLT, Nat.reduceLeDiff, Nat.reduceEqDiff, Nat.reduceAdd, Nat.reduceSub, Nat.reduceMul, Int.reduceEq, Int.reduceLT, Int.reduceLE, Int.reduceToNat]
      refine hF _ ?_; clear hF F
      simp only [go_sem, reduceIte, reduceCtorEq, Nat.reduceLT, Nat.reduceLeDiff, Nat.reduceEqDiff, Nat.reduceAdd, Nat.reduceSub, Nat.reduceMul, Int.reduceEq, Int.reduceLT, Int.reduceLE, Int.reduceToNat]
      refine run_ret ?_
      refine fin_ofF (.inr rfl) [] (show resVL _ _ [.cell 4 25, .tmp 5] = some _ from by simp only [go_sem, reduceIte, reduceCtorEq, Nat.reduceLT, Nat.reduceLeDiff, Nat.reduceEqDiff, Nat.reduceAdd, Nat.reduceSub, Nat.reduceMul, Int.reduceEq, Int.reduceLT, Int.reduceLE, Int.reduceToNat, resVL, resV1, AS.den, ldT_ty]; rfl) ?_ (by first | rfl | exact unA_clo _ | simp only [AV.clo, cloL, encV_clo, Bool.and_true, iA, bA])
      try simp only [go_sem, reduceIte, reduceCtorEq, Nat.reduceLT, Nat.reduceLeDiff, Nat.reduceEqDiff, Nat.reduceAdd, Nat.reduceSub, Nat.reduceMul, Int.reduceEq, Int.reduceLT, Int.reduceLE, Int.reduceToNat, AS.den, resV_one, resV_two, resV_three, clA_nil]
      rw [unsetV_none (getV_none hch)]; exact .refl _
    · try simp only [decide_eq_true_eq, decide_eq_false_iff_not, Bool.not_eq_true', Bool.not_eq_false'] at h20
      exfalso; omega

theorem runset26_obj (W : World) (v y : JV) (s : List UInt8) (p : List (List UInt8)) (hc : cntV v ≤ 2 ^ 30) (hch : 0 ≤ v.child s) (hy : v.items[(v.child s).toNat]? = some y) (hk : v.kind = 6) (ih : ∀ u, cntV u ≤ 2 ^ 30 → Pure Tryd.prog W 26 [encV u, .sl 1 (p.map AV.str) []] (unA (unsetV p u))) : Pure Tryd.prog W 26 [encV v, .sl 1 ((s :: p).map AV.str) []] (unA (unsetV (s :: p) v)) := by
  have h0 : (0 ≤ v.child s) = True := by simp only [eq_iff_iff, iff_true]; omega
  have hlt := child_lt v s
  have hln := cntV_len v
  have hw1 : IntKind.i64.wrap (v.child s + 1) = v.child s + 1 := by rw [IntWalk.i64_in _ (by omega)]
  have h6 : (6 : Int) = 5 ↔ False := by decide
  have hcm := child_mem (v := v) (s := s) hk
  have hmn := v.mem_names
  have hmi := v.mem_items
  have htn := take_le_len AV.str v.names v.mem hmn
  have hti := take_le_len encV v.items v.mem hmi
  have hmn2 : min v.mem v.names.length = v.mem := by omega
  have hmi2 : min v.mem v.items.length = v.mem := by omega
  have hc0 : ((v.child s).toNat ≤ v.mem) = True := by simp only [eq_iff_iff, iff_true]; omega
  have hse : ((v.child s + 1).toNat + (v.mem - (v.child s + 1).toNat) ≤ v.mem) = True := by simp only [eq_iff_iff, iff_true]; omega
  have hset : ((v.items.map encV).take v.mem)[(v.child s).toNat]? = some (encV y) := by rw [List.getElem?_take, if_pos (by omega), List.getElem?_map, hy]; rfl
  refine pure_of_run Tryd.func26 rfl (by rw [Tryd.ntmps26]; simp) ?_
  rw [Tryd.ntmps26, st0_den]
  refine run_seq ?_
  refine run_regS [1, 2, 4] (by decide) (fun F hF => ?_)
  simp only [go_sem, reduceIte, reduceCtorEq, Nat.reduceLT, Nat.reduceLeDiff, Nat.reduceEqDiff, Nat.reduceAdd, Nat.reduceSub, Nat.reduceMul, Int.reduceEq, Int.reduceLT, Int.reduceLE, Int.reduceToNat, hk, h6]
  refine hF _ ?_; clear hF F
  simp only [go_sem, reduceIte, reduceCtorEq, Nat.reduceLT, Nat.reduceLeDiff, Nat.reduceEqDiff, Nat.reduceAdd, Nat.reduceSub, Nat.reduceMul, Int.reduceEq, Int.reduceLT, Int.reduceLE, Int.reduceToNat, hk, h6]
  refine run_seq ?_
  refine run_seq ?_
  refine run_regS [1, 2, 4, 12] (by decide) (fun F hF => ?_)
  simp only [go_sem, reduceIte, reduceCtorEq, Nat.reduceLT, Nat.reduceLeDiff, Nat.reduceEqDiff, Nat.reduceAdd, Nat.reduceSub, Nat.reduceMul, Int.reduceEq, Int.reduceLT, Int.reduceLE, Int.reduceToNat, hk, h6]
  refine hF _ ?_; clear hF F
  simp only [go_sem, reduceIte, reduceCtorEq, Nat.reduceLT, Nat.reduceLeDiff, Nat.reduceEqDiff, Nat.reduceAdd, Nat.reduceSub, Nat.reduceMul, Int.reduceEq, Int.reduceLT, Int.reduceLE, Int.reduceToNat, hk, h6]
  refine run_condA (by simp only [evL, evC, tg, reduceIte, Nat.reduceEqDiff]; rfl) (fun h12 => ?_) (fun h12 => ?_)
  · try simp only [decide_eq_true_eq, decide_eq_false_iff_not, Bool.not_eq_true', Bool.not_eq_false'] at h12
    exfalso; omega
  · try simp only [decide_eq_true_eq, decide_eq_false_iff_not, Bool.not_eq_true', Bool.not_eq_false'] at h12
    refine run_skip ?_
    refine run_seq ?_
    refine run_regD [1, 2, 4, 6] (by decide) mixed0 (by decide) (fun F hF => ?_)
    simp only [go_sem, reduceIte, reduceCtorEq, Nat.reduceLT, Nat.reduceLeDiff, Nat.reduceEqDiff, Nat.reduceAdd, Nat.reduceSub, Nat.reduceMul, Int.reduceEq, Int.reduceLT, Int.reduceLE, Int.reduceToNat, hk, h6, le_add0, take_map_len, drop_map_len, ge0_len1, one_le_len1, Int.toNat_natCast, Int.reduceToNat, Int.toNat_one, Int.toNat_zero, Int.le_refl, Int.natCast_nonneg, List.drop_zero]
    refine aCall_flat0 (place47 W v s (okV_names (okV_cnt v hc))) call47 (.cons (.refl _) (.cons (.refl _) .nil)) (by first | rfl | simp only [cloL, encV_clo, AV.clo, Bool.and_true, iA, bA, lsA_clo]) (by rfl) ?_
    try simp only [go_sem, reduceIte, reduceCtorEq, Nat.reduceLT, Nat.reduceLeDiff, Nat.reduceEqDiff, Nat.reduceAdd, Nat.reduceSub, Nat.reduceMul, Int.reduceEq, Int.reduceLT, Int.reduceLE, Int.reduceToNat, hk, h6, le_add0, take_map_len, drop_map_len, ge0_len1, one_le_len1, Int.toNat_natCast, Int.reduceToNat, Int.toNat_one, Int.toNat_zero, Int.le_refl, Int.natCast_nonneg, List.drop_zero]
    refine ⟨by decide, ?_⟩
    refine hF _ ?_; clear hF F
    simp only [go_sem, reduceIte, reduceCtorEq, Nat.reduceLT, Nat.reduceLeDiff, Nat.reduceEqDiff, Nat.reduceAdd, Nat.reduceSub, Nat.reduceMul, Int.reduceEq, Int.reduceLT, Int.reduceLE, Int.reduceToNat, hk, h6, le_add0, take_map_len, drop_map_len, ge0_len1, one_le_len1, Int.toNat_natCast, Int.reduceToNat, Int.toNat_one, Int.toNat_zero, Int.le_refl, Int.natCast_nonneg, List.drop_zero]
    refine run_seq ?_
    refine run_seq ?_
    refine run_regS [1, 2, 4, 6, 20] (by decide) (fun F hF => ?_)
    simp only [go_sem, reduceIte, reduceCtorEq, Nat.reduceLT, Nat.reduceLeDiff, Nat.reduceEqDiff, Nat.reduceAdd, Nat.reduceSub, Nat.reduceMul, Int.reduceEq, Int.reduceLT, Int.reduceLE, Int.reduceToNat, hk, h6]
    refine hF _ ?_; clear hF F
    simp only [go_sem, reduceIte, reduceCtorEq, Nat.reduceLT, Nat.reduceLeDiff, Nat.reduceEqDiff, Nat.reduceAdd, Nat.reduceSub, Nat.reduceMul, Int.reduceEq, Int.reduceLT, Int.reduceLE, Int.reduceToNat, hk, h6]
    refine run_condA (by simp only [evL, evC, tg, reduceIte, Nat.reduceEqDiff]; rfl) (fun h20 => ?_) (fun h20 => ?_)
    · try simp only [decide_eq_true_eq, decide_eq_false_iff_not, Bool.not_eq_true', Bool.not_eq_false'] at h20
      exfalso; omega
    · try simp only [decide_eq_true_eq, decide_eq_false_iff_not, Bool.not_eq_true', Bool.not_eq_false'] at h20
      refine run_skip ?_
      refine run_seq ?_
      refine run_regS [1, 2, 4, 6, 7] (by decide) (fun F hF => ?_)
      simp only [go_sem, reduceIte, reduceCtorEq, Nat.reduceLT, Nat.reduceLeDiff, Nat.reduceEqDiff, Nat.reduceAdd, Nat.reduceSub, Nat.reduceMul, Int.reduceEq, Int.reduceLT, Int.reduceLE, Int.reduceToNat, hk, h6]
      refine aCall_retH0 [(16, 84), (22, 85)] (anew52_obj W v hc hk) call52 (.cons (.refl _) .nil) (by first | rfl | simp only [cloL, encV_clo, AV.clo, Bool.and_true, iA, bA, lsA_clo]) (by rfl) (by rfl) (by rfl) ?_
      try simp only [go_sem, reduceIte, reduceCtorEq, Nat.reduceLT, Nat.reduceLeDiff, Nat.reduceEqDiff, Nat.reduceAdd, Nat.reduceSub, Nat.reduceMul, Int.reduceEq, Int.reduceLT, Int.reduceLE, Int.reduceToNat, hk, h6]
      refine hF _ ?_; clear hF F
      simp only [go_sem, reduceIte, reduceCtorEq, Nat.reduceLT, Nat.reduceLeDiff, Nat.reduceEqDiff, Nat.reduceAdd, Nat.reduceSub, Nat.reduceMul, Int.reduceEq, Int.reduceLT, Int.reduceLE, Int.reduceToNat, hk, h6]
      refine run_seq ?_
      refine run_seq ?_
      refine run_regS [1, 2, 4, 6, 7, 26] (by decide) (fun F hF => ?_)
      simp only [go_sem, reduceIte, reduceCtorEq, Nat.reduceLT, Nat.reduceLeDiff, Nat.reduceEqDiff, Nat.reduceAdd, Nat.reduceSub, Nat.reduceMul, Int.reduceEq, Int.reduceLT, Int.reduceLE, Int.reduceToNat, hk, h6]
      refine hF _ ?_; clear hF F
      simp only [go_sem, reduceIte, reduceCtorEq, Nat.reduceLT, Nat.reduceLeDiff, Nat.reduceEqDiff, Nat.reduceAdd, Nat.reduceSub, Nat.reduceMul, Int.reduceEq, Int.reduceLT, Int.reduceLE, Int.reduceToNat, hk, h6]
      refine run_condA (by simp only [evL, evC, tg, reduceIte, Nat.reduceEqDiff]; rfl) (fun h26 => ?_) (fun h26 => ?_)
      · try simp only [decide_eq_true_eq, decide_eq_false_iff_not, Bool.not_eq_true', Bool.not_eq_false'] at h26
        refine run_seq ?_
        refine run_regD [2, 4, 6, 7, 8, 9] (by decide) mixed0 (by decide) (fun F hF => ?_)
        simp only [go_sem, reduceIte, reduceCtorEq, Nat.reduceLT, Nat.reduceLeDiff, Nat.reduceEqDiff, Nat.reduceAdd, Nat.reduceSub, Nat.reduceMul, Int.reduceEq, Int.reduceLT, Int.reduceLE, Int.reduceToNat, hk, h6, h0, hy, unA, List.getElem?_map, Option.map_some, le_add0, take_map_len, drop_map_len, ge0_len1, one_le_len1, Int.toNat_natCast, Int.reduceToNat, Int.toNat_one, Int.toNat_zero, Int.le_refl, Int.natCast_nonneg, List.drop_zero]
        repeat (first | (apply And.intro; · omega) | simp only [go_sem, reduceIte, reduceCtorEq, Nat.reduceLT, Nat.reduceLeDiff, Nat.reduceEqDiff, Nat.reduceAdd, Nat.reduceSub, Nat.reduceMul, Int.reduceEq, Int.reduceLT, Int.reduceLE, Int.reduceToNat, hk, h6, h0, hy, unA, List.getElem?_map, Option.map_some, le_add0, take_map_len, drop_map_len, ge0_len1, one_le_len1, Int.toNat_natCast, Int.reduceToNat, Int.toNat_one, Int.toNat_zero, Int.le_refl, Int.natCast_nonneg, List.drop_zero])
        refine aCall_pure0 (ih y (by have := cntV_item hy; omega)) call26 (.cons (.refl _) (.cons (.refl _) .nil)) (by first | rfl | simp only [cloL, encV_clo, AV.clo, Bool.and_true, iA, bA, lsA_clo]) ?_
        try simp only [go_sem, reduceIte, reduceCtorEq, Nat.reduceLT, Nat.reduceLeDiff, Nat.reduceEqDiff, Nat.reduceAdd, Nat.reduceSub, Nat.reduceMul, Int.reduceEq, Int.reduceLT, Int.reduceLE, Int.reduceToNat, hk, h6, h0, hy, unA, List.getElem?_map, Option.map_some, le_add0, take_map_len, drop_map_len, ge0_len1, one_le_len1, Int.toNat_natCast, Int.reduceToNat, Int.toNat_one, Int.toNat_zero, Int.le_refl, Int.natCast_nonneg, List.drop_zero]
        repeat (first | (apply And.intro; · omega) | simp only [go_sem, reduceIte, reduceCtorEq, Nat.reduceLT, Nat.reduceLeDiff, Nat.reduceEqDiff, Nat.reduceAdd, Nat.reduceSub, Nat.reduceMul, Int.reduceEq, Int.reduceLT, Int.reduceLE, Int.reduceToNat, hk, h6, h0, hy, unA, List.getElem?_map, Option.map_some, le_add0, take_map_len, drop_map_len, ge0_len1, one_le_len1, Int.toNat_natCast, Int.reduceToNat, Int.toNat_one, Int.toNat_zero, Int.le_refl, Int.natCast_nonneg, List.drop_zero])
        refine ⟨by decide, ?_⟩
        refine hF _ ?_; clear hF F
        simp only [go_sem, reduceIte, reduceCtorEq, Nat.reduceLT, Nat.reduceLeDiff, Nat.reduceEqDiff, Nat.reduceAdd, Nat.reduceSub, Nat.reduceMul, Int.reduceEq, Int.reduceLT, Int.reduceLE, Int.reduceToNat, hk, h6, h0, hy, unA, List.getElem?_map, Option.map_some, le_add0, take_map_len, drop_map_len, ge0_len1, one_le_len1, Int.toNat_natCast, Int.reduceToNat, Int.toNat_one, Int.toNat_zero, Int.le_refl, Int.natCast_nonneg, List.drop_zero]
        refine run_seq ?_
        refine run_seq ?_
        refine run_regS [2, 4, 6, 7, 8, 39] (by decide) (fun F hF => ?_)
        simp only [go_sem, reduceIte, reduceCtorEq, Nat.reduceLT, Nat.reduceLeDiff, Nat.reduceEqDiff, Nat.reduceAdd, Nat.reduceSub, Nat.reduceMul, Int.reduceEq, Int.reduceLT, Int.reduceLE, Int.reduceToNat, hk, h6]
        refine hF _ ?_; clear hF F
        simp only [go_sem, reduceIte, reduceCtorEq, Nat.reduceLT, Nat.reduceLeDiff, Nat.reduceEqDiff, Nat.reduceAdd, Nat.reduceSub, Nat.reduceMul, Int.reduceEq, Int.reduceLT, Int.reduceLE, Int.reduceToNat, hk, h6]
        refine run_condA (by simp only [evL, evC, tg, reduceIte, Nat.reduceEqDiff]; rfl) (fun h39 => ?_) (fun h39 => ?_)
        · try simp only [decide_eq_true_eq, decide_eq_false_iff_not, Bool.not_eq_true', Bool.not_eq_false'] at h39
          refine run_seq ?_
          refine run_regS [4, 5] (by decide) (fun F hF => ?_)
          simp only [go_sem, reduceIte, reduceCtorEq, Nat.reduceLT, Nat.reduceLeDiff, Nat.reduceEqDiff, Nat.reduceAdd, Nat.reduceSub, Nat.reduceMul, Int.reduceEq, Int.reduceLT, Int.reduceLE, Int.reduceToNat, hk, h6]
          refine hF _ ?_; clear hF F
          simp only [go_sem, reduceIte, reduceCtorEq, Nat.reduceLT, Nat.reduceLeDiff, Nat.reduceEqDiff, Nat.reduceAdd, Nat.reduceSub, Nat.reduceMul, Int.reduceEq, Int.reduceLT, Int.reduceLE, Int.reduceToNat, hk, h6]
          refine run_ret ?_
          refine fin_ofF (.inr rfl) [58, 63, 69, 70, 75, 81, 84, 85, 86] (show resVL _ _ [.cell 4 25, .tmp 5] = some _ from by simp only [go_sem, reduceIte, reduceCtorEq, Nat.reduceLT, Nat.reduceLeDiff, Nat.reduceEqDiff, Nat.reduceAdd, Nat.reduceSub, Nat.reduceMul, Int.reduceEq, Int.reduceLT, Int.reduceLE, Int.reduceToNat, resVL, resV1, AS.den, ldT_ty]; rfl) ?_ (by first | rfl | exact unA_clo _ | simp only [AV.clo, cloL, encV_clo, Bool.and_true, iA, bA])
          try simp only [go_sem, reduceIte, reduceCtorEq, Nat.reduceLT, Nat.reduceLeDiff, Nat.reduceEqDiff, Nat.reduceAdd, Nat.reduceSub, Nat.reduceMul, Int.reduceEq, Int.reduceLT, Int.reduceLE, Int.reduceToNat, AS.den, resV_one, resV_two, resV_three, clA_nil]
          show Le _ (unA (unsetV (s :: p) v))
          have hpn : ¬ p = [] := by rintro rfl; simp at h26
          rw [unsetV_up hch hpn hy (by simpa using h39)]; exact .refl _
        · try simp only [decide_eq_true_eq, decide_eq_false_iff_not, Bool.not_eq_true', Bool.not_eq_false'] at h39
          refine run_skip ?_
          refine run_seq ?_
          refine run_regS [4, 7] (by decide) (fun F hF => ?_)
          simp only [go_sem, reduceIte, reduceCtorEq, Nat.reduceLT, Nat.reduceLeDiff, Nat.reduceEqDiff, Nat.reduceAdd, Nat.reduceSub, Nat.reduceMul, Int.reduceEq, Int.reduceLT, Int.reduceLE, Int.reduceToNat, hk, h6, h0, hset, Nat.zero_add, le_add0, take_map_len, drop_map_len, ge0_len1, one_le_len1, Int.toNat_natCast, Int.reduceToNat, Int.toNat_one, Int.toNat_zero, Int.le_refl, Int.natCast_nonneg, List.drop_zero]
          repeat (first | (apply And.intro; · omega) | simp only [go_sem, reduceIte, reduceCtorEq, Nat.reduceLT, Nat.reduceLeDiff, Nat.reduceEqDiff, Nat.reduceAdd, Nat.reduceSub, Nat.reduceMul, Int.reduceEq, Int.reduceLT, Int.reduceLE, Int.reduceToNat, hk, h6, h0, hset, Nat.zero_add, le_add0, take_map_len, drop_map_len, ge0_len1, one_le_len1, Int.toNat_natCast, Int.reduceToNat, Int.toNat_one, Int.toNat_zero, Int.le_refl, Int.natCast_nonneg, List.drop_zero])
          refine hF _ ?_; clear hF F
          simp only [go_sem, reduceIte, reduceCtorEq, Nat.reduceLT, Nat.reduceLeDiff, Nat.reduceEqDiff, Nat.reduceAdd, Nat.reduceSub, Nat.reduceMul, Int.reduceEq, Int.reduceLT, Int.reduceLE, Int.reduceToNat, hk, h6, h0, hset, Nat.zero_add, le_add0, take_map_len, drop_map_len, ge0_len1, one_le_len1, Int.toNat_natCast, Int.reduceToNat, Int.toNat_one, Int.toNat_zero, Int.le_refl, Int.natCast_nonneg, List.drop_zero]
          refine run_seq ?_
          refine run_regS [4, 5] (by decide) (fun F hF => ?_)
          simp only [go_sem, reduceIte, reduceCtorEq, Nat.reduceLT, Nat.reduceLeDiff, Nat.reduceEqDiff, Nat.reduceAdd, Nat.reduceSub, Nat.reduceMul, Int.reduceEq, Int.reduceLT, Int.reduceLE, Int.reduceToNat, hk, h6]
          refine hF _ ?_; clear hF F
          simp only [go_sem, reduceIte, reduceCtorEq, Nat.reduceLT, Nat.reduceLeDiff, Nat.reduceEqDiff, Nat.reduceAdd, Nat.reduceSub, Nat.reduceMul, Int.reduceEq, Int.reduceLT, Int.reduceLE, Int.reduceToNat, hk, h6]
          refine run_ret ?_
          refine fin_ofF (.inr rfl) [58, 63, 69, 70, 75, 81, 84, 85, 86] (show resVL _ _ [.cell 4 25, .tmp 5] = some _ from by simp only [go_sem, reduceIte, reduceCtorEq, Nat.reduceLT, Nat.reduceLeDiff, Nat.reduceEqDiff, Nat.reduceAdd, Nat.reduceSub, Nat.reduceMul, Int.reduceEq, Int.reduceLT, Int.reduceLE, Int.reduceToNat, resVL, resV1, AS.den, ldT_ty]; rfl) ?_ (by first | rfl | exact unA_clo _ | simp only [AV.clo, cloL, encV_clo, Bool.and_true, iA, bA])
          try simp only [go_sem, reduceIte, reduceCtorEq, Nat.reduceLT, Nat.reduceLeDiff, Nat.reduceEqDiff, Nat.reduceAdd, Nat.reduceSub, Nat.reduceMul, Int.reduceEq, Int.reduceLT, Int.reduceLE, Int.reduceToNat, AS.den, resV_one, resV_two, resV_three, clA_nil]
          show Le _ (unA (unsetV (s :: p) v))
          have hpn : ¬ p = [] := by rintro rfl; simp at h26
          rw [unsetV_dn hch hpn hy (by simpa using h39), JV.put, if_pos hk]
          exact unA_of ⟨6, 0, [], v.names.take v.mem⟩ _ _ _ _ (le_if (by simp; omega) (le_take2 _ _ _ _)) (le_put2 _ _ _ _ _ _ _ hmi)
      · try simp only [decide_eq_true_eq, decide_eq_false_iff_not, Bool.not_eq_true', Bool.not_eq_false'] at h26
        refine run_skip ?_
        refine run_seq ?_
        refine run_seq ?_
        refine run_regS [4, 6, 7, 49] (by decide) (fun F hF => ?_)
        simp only [go_sem, reduceIte, reduceCtorEq, Nat.reduceLT, Nat.reduceLeDiff, Nat.reduceEqDiff, Nat.reduceAdd, Nat.reduceSub, Nat.reduceMul, Int.reduceEq, Int.reduceLT, Int.reduceLE, Int.reduceToNat, hk, h6]
        refine hF _ ?_; clear hF F
        simp only [go_sem, reduceIte, reduceCtorEq, Nat.reduceLT, Nat.reduceLeDiff, Nat.reduceEqDiff, Nat.reduceAdd, Nat.reduceSub, Nat.reduceMul, Int.reduceEq, Int.reduceLT, Int.reduceLE, Int.reduceToNat, hk, h6]
        refine run_condA (by simp only [evL, evC, tg, reduceIte, Nat.reduceEqDiff]; rfl) (fun h49 => ?_) (fun h49 => ?_)
        · try simp only [decide_eq_true_eq, decide_eq_false_iff_not, Bool.not_eq_true', Bool.not_eq_false'] at h49
          first | exact absurd trivial h49 | exact h49.elim | exact absurd h49 (by decide) | exact absurd rfl h49
        · try simp only [decide_eq_true_eq, decide_eq_false_iff_not, Bool.not_eq_true', Bool.not_eq_false'] at h49
          refine run_skip ?_
          refine run_seq ?_
          refine run_regD [4, 5] (by decide) mixed0 (by decide) (fun F hF => ?_)
          simp only [go_sem, reduceIte, reduceCtorEq, Nat.reduceLT, Nat.reduceLeDiff, Nat.reduceEqDiff, Nat.reduceAdd, Nat.reduceSub, Nat.reduceMul, Int.reduceEq, Int.reduceLT, Int.reduceLE, Int.reduceToNat, hk, h6, h0, hw1, htn, hti, Nat.sub_zero, hc0, hse, Nat.zero_add, List.length_take, List.length_drop, hmn2, hmi2, le_add0, take_map_len, drop_map_len, ge0_len1, one_le_len1, Int.toNat_natCast, Int.reduceToNat, Int.toNat_one, Int.toNat_zero, Int.le_refl, Int.natCast_nonneg, List.drop_zero]
          repeat (first | (apply And.intro; · omega) | simp only [go_sem, reduceIte, reduceCtorEq, Nat.reduceLT, Nat.reduceLeDiff, Nat.reduceEqDiff, Nat.reduceAdd, Nat.reduceSub, Nat.reduceMul, Int.reduceEq, Int.reduceLT, Int.reduceLE, Int.reduceToNat, hk, h6, h0, hw1, htn, hti, Nat.sub_zero, hc0, hse, Nat.zero_add, List.length_take, List.length_drop, hmn2, hmi2, le_add0, take_map_len, drop_map_len, ge0_len1, one_le_len1, Int.toNat_natCast, Int.reduceToNat, Int.toNat_one, Int.toNat_zero, Int.le_refl, Int.natCast_nonneg, List.drop_zero])
          refine ⟨by decide, ?_⟩
          refine hF _ ?_; clear hF F
          simp only [go_sem, reduceIte, reduceCtorEq, Nat.reduceLT, Nat.reduceLeDiff, Nat.reduceEqDiff, Nat.reduceAdd, Nat.reduceSub, Nat.reduceMul, Int.reduceEq, Int.reduceLT, Int.reduceLE, Int.reduceToNat, hk, h6, h0, hw1, htn, hti, Nat.sub_zero, hc0, hse, Nat.zero_add, List.length_take, List.length_drop, hmn2, hmi2, le_add0, take_map_len, drop_map_len, ge0_len1, one_le_len1, Int.toNat_natCast, Int.reduceToNat, Int.toNat_one, Int.toNat_zero, Int.le_refl, Int.natCast_nonneg, List.drop_zero]
          refine run_ret ?_
          refine fin_ofF (.inr rfl) [58, 63, 69, 70, 75, 81, 84, 85, 86] (show resVL _ _ [.cell 4 25, .tmp 5] = some _ from by simp only [go_sem, reduceIte, reduceCtorEq, Nat.reduceLT, Nat.reduceLeDiff, Nat.reduceEqDiff, Nat.reduceAdd, Nat.reduceSub, Nat.reduceMul, Int.reduceEq, Int.reduceLT, Int.reduceLE, Int.reduceToNat, resVL, resV1, AS.den, ldT_ty]; rfl) ?_ (by first | rfl | exact unA_clo _ | simp only [AV.clo, cloL, encV_clo, Bool.and_true, iA, bA])
          try simp only [go_sem, reduceIte, reduceCtorEq, Nat.reduceLT, Nat.reduceLeDiff, Nat.reduceEqDiff, Nat.reduceAdd, Nat.reduceSub, Nat.reduceMul, Int.reduceEq, Int.reduceLT, Int.reduceLE, Int.reduceToNat, AS.den, resV_one, resV_two, resV_three, clA_nil]
          show Le _ (unA (unsetV (s :: p) v))
          have hp0 : p = [] := List.eq_nil_of_length_eq_zero (by omega)
          subst hp0
          rw [unsetV_obj (getV_one hch hy) hk, JV.cut]
          exact unA_of ⟨6, 0, [], _⟩ _ _ _ _ (le_cut2 _ _ _ _ _ _ (by omega) hcm hmn) (le_cut2 _ _ _ _ _ _ (by omega) hcm hmi)

theorem runset26_list (W : World) (v y : JV) (s : List UInt8) (p : List (List UInt8)) (hc : cntV v ≤ 2 ^ 30) (hch : 0 ≤ v.child s) (hy : v.items[(v.child s).toNat]? = some y) (hk : v.kind = 5) (ih : ∀ u, cntV u ≤ 2 ^ 30 → Pure Tryd.prog W 26 [encV u, .sl 1 (p.map AV.str) []] (unA (unsetV p u))) : Pure Tryd.prog W 26 [encV v, .sl 1 ((s :: p).map AV.str) []] (unA (unsetV (s :: p) v)) := by
  have h0 : (0 ≤ v.child s) = True := by simp only [eq_iff_iff, iff_true]; omega
  have hlt := child_lt v s
  have hln := cntV_len v
  have hw1 : IntKind.i64.wrap (v.child s + 1) = v.child s + 1 := by rw [IntWalk.i64_in _ (by omega)]
  have h5 : (5 : Int) = 6 ↔ False := by decide
  have hk6 : (v.kind = 6) = False := by simp only [eq_iff_iff, iff_false]; omega
  have hset : (v.items.map encV)[(v.child s).toNat]? = some (encV y) := by rw [List.getElem?_map, hy]; rfl
  refine pure_of_run Tryd.func26 rfl (by rw [Tryd.ntmps26]; simp) ?_
  rw [Tryd.ntmps26, st0_den]
  refine run_seq ?_
  refine run_regS [1, 2, 4] (by decide) (fun F hF => ?_)
  simp only [go_sem, reduceIte, reduceCtorEq, Nat.reduceLT, Nat.reduceLeDiff, Nat.reduceEqDiff, Nat.reduceAdd, Nat.reduceSub, Nat.reduceMul, Int.reduceEq, Int.reduceLT, Int.reduceLE, Int.reduceToNat, hk, h5]
  refine hF _ ?_; clear hF F
  simp only [go_sem, reduceIte, reduceCtorEq, Nat.reduceLT, Nat.reduceLeDiff, Nat.reduceEqDiff, Nat.reduceAdd, Nat.reduceSub, Nat.reduceMul, Int.reduceEq, Int.reduceLT, Int.reduceLE, Int.reduceToNat, hk, h5]
  refine run_seq ?_
  refine run_seq ?_
  refine run_regS [1, 2, 4, 12] (by decide) (fun F hF => ?_)
  simp only [go_sem, reduceIte, reduceCtorEq, Nat.reduceLT, Nat.reduceLeDiff, Nat.reduceEqDiff, Nat.reduceAdd, Nat.reduceSub, Nat.reduceMul, Int.reduceEq, Int.reduceLT, Int.reduceLE, Int.reduceToNat, hk, h5]
  refine hF _ ?_; clear hF F
  simp only [go_sem, reduceIte, reduceCtorEq, Nat.reduceLT, Nat.reduceLeDiff, Nat.reduceEqDiff, Nat.reduceAdd, Nat.reduceSub, Nat.reduceMul, Int.reduceEq, Int.reduceLT, Int.reduceLE, Int.reduceToNat, hk, h5]
  refine run_condA (by simp only [evL, evC, tg, reduceIte, Nat.reduceEqDiff]; rfl) (fun h12 => ?_) (fun h12 => ?_)
  · try simp only [decide_eq_true_eq, decide_eq_false_iff_not, Bool.not_eq_true', Bool.not_eq_false'] at h12
    exfalso; omega
  · try simp only [decide_eq_true_eq, decide_eq_false_iff_not, Bool.not_eq_true', Bool.not_eq_false'] at h12
    refine run_skip ?_
    refine run_seq ?_
    refine run_regD [1, 2, 4, 6] (by decide) mixed0 (by decide) (fun F hF => ?_)
    simp only [go_sem, reduceIte, reduceCtorEq, Nat.reduceLT, Nat.reduceLeDiff, Nat.reduceEqDiff, Nat.reduceAdd, Nat.reduceSub, Nat.reduceMul, Int.reduceEq, Int.reduceLT, Int.reduceLE, Int.reduceToNat, hk, h5, le_add0, take_map_len, drop_map_len, ge0_len1, one_le_len1, Int.toNat_natCast, Int.reduceToNat, Int.toNat_one, Int.toNat_zero, Int.le_refl, Int.natCast_nonneg, List.drop_zero]
    refine aCall_flat0 (place47 W v s (okV_names (okV_cnt v hc))) call47 (.cons (.refl _) (.cons (.refl _) .nil)) (by first | rfl | simp only [cloL, encV_clo, AV.clo, Bool.and_true, iA, bA, lsA_clo]) (by rfl) ?_
    try simp only [go_sem, reduceIte, reduceCtorEq, Nat.reduceLT, Nat.reduceLeDiff, Nat.reduceEqDiff, Nat.reduceAdd, Nat.reduceSub, Nat.reduceMul, Int.reduceEq, Int.reduceLT, Int.reduceLE, Int.reduceToNat, hk, h5, le_add0, take_map_len, drop_map_len, ge0_len1, one_le_len1, Int.toNat_natCast, Int.reduceToNat, Int.toNat_one, Int.toNat_zero, Int.le_refl, Int.natCast_nonneg, List.drop_zero]
    refine ⟨by decide, ?_⟩
    refine hF _ ?_; clear hF F
    simp only [go_sem, reduceIte, reduceCtorEq, Nat.reduceLT, Nat.reduceLeDiff, Nat.reduceEqDiff, Nat.reduceAdd, Nat.reduceSub, Nat.reduceMul, Int.reduceEq, Int.reduceLT, Int.reduceLE, Int.reduceToNat, hk, h5, le_add0, take_map_len, drop_map_len, ge0_len1, one_le_len1, Int.toNat_natCast, Int.reduceToNat, Int.toNat_one, Int.toNat_zero, Int.le_refl, Int.natCast_nonneg, List.drop_zero]
    refine run_seq ?_
    refine run_seq ?_
    refine run_regS [1, 2, 4, 6, 20] (by decide) (fun F hF => ?_)
    simp only [go_sem, reduceIte, reduceCtorEq, Nat.reduceLT, Nat.reduceLeDiff, Nat.reduceEqDiff, Nat.reduceAdd, Nat.reduceSub, Nat.reduceMul, Int.reduceEq, Int.reduceLT, Int.reduceLE, Int.reduceToNat, hk, h5]
    refine hF _ ?_; clear hF F
    simp only [go_sem, reduceIte, reduceCtorEq, Nat.reduceLT, Nat.reduceLeDiff, Nat.reduceEqDiff, Nat.reduceAdd, Nat.reduceSub, Nat.reduceMul, Int.reduceEq, Int.reduceLT, Int.reduceLE, Int.reduceToNat, hk, h5]
    refine run_condA (by simp only [evL, evC, tg, reduceIte, Nat.reduceEqDiff]; rfl) (fun h20 => ?_) (fun h20 => ?_)
    · try simp only [decide_eq_true_eq, decide_eq_false_iff_not, Bool.not_eq_true', Bool.not_eq_false'] at h20
      exfalso; omega
    · try simp only [decide_eq_true_eq, decide_eq_false_iff_not, Bool.not_eq_true', Bool.not_eq_false'] at h20
      refine run_skip ?_
      refine run_seq ?_
      refine run_regS [1, 2, 4, 6, 7] (by decide) (fun F hF => ?_)
      simp only [go_sem, reduceIte, reduceCtorEq, Nat.reduceLT, Nat.reduceLeDiff, Nat.reduceEqDiff, Nat.reduceAdd, Nat.reduceSub, Nat.reduceMul, Int.reduceEq, Int.reduceLT, Int.reduceLE, Int.reduceToNat, hk, h5]
      refine aCall_retH0 [(29, 86)] (anew52_list W v hc hk6) call52 (.cons (.refl _) .nil) (by first | rfl | simp only [cloL, encV_clo, AV.clo, Bool.and_true, iA, bA, lsA_clo]) (by rfl) (by rfl) (by rfl) ?_
      try simp only [go_sem, reduceIte, reduceCtorEq, Nat.reduceLT, Nat.reduceLeDiff, Nat.reduceEqDiff, Nat.reduceAdd, Nat.reduceSub, Nat.reduceMul, Int.reduceEq, Int.reduceLT, Int.reduceLE, Int.reduceToNat, hk, h5]
      refine hF _ ?_; clear hF F
      simp only [go_sem, reduceIte, reduceCtorEq, Nat.reduceLT, Nat.reduceLeDiff, Nat.reduceEqDiff, Nat.reduceAdd, Nat.reduceSub, Nat.reduceMul, Int.reduceEq, Int.reduceLT, Int.reduceLE, Int.reduceToNat, hk, h5]
      refine run_seq ?_
      refine run_seq ?_
      refine run_regS [1, 2, 4, 6, 7, 26] (by decide) (fun F hF => ?_)
      simp only [go_sem, reduceIte, reduceCtorEq, Nat.reduceLT, Nat.reduceLeDiff, Nat.reduceEqDiff, Nat.reduceAdd, Nat.reduceSub, Nat.reduceMul, Int.reduceEq, Int.reduceLT, Int.reduceLE, Int.reduceToNat, hk, h5]
      refine hF _ ?_; clear hF F
      simp only [go_sem, reduceIte, reduceCtorEq, Nat.reduceLT, Nat.reduceLeDiff, Nat.reduceEqDiff, Nat.reduceAdd, Nat.reduceSub, Nat.reduceMul, Int.reduceEq, Int.reduceLT, Int.reduceLE, Int.reduceToNat, hk, h5]
      refine run_condA (by simp only [evL, evC, tg, reduceIte, Nat.reduceEqDiff]; rfl) (fun h26 => ?_) (fun h26 => ?_)
      · try simp only [decide_eq_true_eq, decide_eq_false_iff_not, Bool.not_eq_true', Bool.not_eq_false'] at h26
        refine run_seq ?_
        refine run_regD [2, 4, 6, 7, 8, 9] (by decide) mixed0 (by decide) (fun F hF => ?_)
        simp only [go_sem, reduceIte, reduceCtorEq, Nat.reduceLT, Nat.reduceLeDiff, Nat.reduceEqDiff, Nat.reduceAdd, Nat.reduceSub, Nat.reduceMul, Int.reduceEq, Int.reduceLT, Int.reduceLE, Int.reduceToNat, hk, h5, h0, hy, unA, List.getElem?_map, Option.map_some, le_add0, take_map_len, drop_map_len, ge0_len1, one_le_len1, Int.toNat_natCast, Int.reduceToNat, Int.toNat_one, Int.toNat_zero, Int.le_refl, Int.natCast_nonneg, List.drop_zero]
        repeat (first | (apply And.intro; · omega) | simp only [go_sem, reduceIte, reduceCtorEq, Nat.reduceLT, Nat.reduceLeDiff, Nat.reduceEqDiff, Nat.reduceAdd, Nat.reduceSub, Nat.reduceMul, Int.reduceEq, Int.reduceLT, Int.reduceLE, Int.reduceToNat, hk, h5, h0, hy, unA, List.getElem?_map, Option.map_some, le_add0, take_map_len, drop_map_len, ge0_len1, one_le_len1, Int.toNat_natCast, Int.reduceToNat, Int.toNat_one, Int.toNat_zero, Int.le_refl, Int.natCast_nonneg, List.drop_zero])
        refine aCall_pure0 (ih y (by have := cntV_item hy; omega)) call26 (.cons (.refl _) (.cons (.refl _) .nil)) (by first | rfl | simp only [cloL, encV_clo, AV.clo, Bool.and_true, iA, bA, lsA_clo]) ?_
        try simp only [go_sem, reduceIte, reduceCtorEq, Nat.reduceLT, Nat.reduceLeDiff, Nat.reduceEqDiff, Nat.reduceAdd, Nat.reduceSub, Nat.reduceMul, Int.reduceEq, Int.reduceLT, Int.reduceLE, Int.reduceToNat, hk, h5, h0, hy, unA, List.getElem?_map, Option.map_some, le_add0, take_map_len, drop_map_len, ge0_len1, one_le_len1, Int.toNat_natCast, Int.reduceToNat, Int.toNat_one, Int.toNat_zero, Int.le_refl, Int.natCast_nonneg, List.drop_zero]
        repeat (first | (apply And.intro; · omega) | simp only [go_sem, reduceIte, reduceCtorEq, Nat.reduceLT, Nat.reduceLeDiff, Nat.reduceEqDiff, Nat.reduceAdd, Nat.reduceSub, Nat.reduceMul, Int.reduceEq, Int.reduceLT, Int.reduceLE, Int.reduceToNat, hk, h5, h0, hy, unA, List.getElem?_map, Option.map_some, le_add0, take_map_len, drop_map_len, ge0_len1, one_le_len1, Int.toNat_natCast, Int.reduceToNat, Int.toNat_one, Int.toNat_zero, Int.le_refl, Int.natCast_nonneg, List.drop_zero])
        refine ⟨by decide, ?_⟩
        refine hF _ ?_; clear hF F
        simp only [go_sem, reduceIte, reduceCtorEq, Nat.reduceLT, Nat.reduceLeDiff, Nat.reduceEqDiff, Nat.reduceAdd, Nat.reduceSub, Nat.reduceMul, Int.reduceEq, Int.reduceLT, Int.reduceLE, Int.reduceToNat, hk, h5, h0, hy, unA, List.getElem?_map, Option.map_some, le_add0, take_map_len, drop_map_len, ge0_len1, one_le_len1, Int.toNat_natCast, Int.reduceToNat, Int.toNat_one, Int.toNat_zero, Int.le_refl, Int.natCast_nonneg, List.drop_zero]
        refine run_seq ?_
        refine run_seq ?_
        refine run_regS [2, 4, 6, 7, 8, 39] (by decide) (fun F hF => ?_)
        simp only [go_sem, reduceIte, reduceCtorEq, Nat.reduceLT, Nat.reduceLeDiff, Nat.reduceEqDiff, Nat.reduceAdd, Nat.reduceSub, Nat.reduceMul, Int.reduceEq, Int.reduceLT, Int.reduceLE, Int.reduceToNat, hk, h5]
        refine hF _ ?_; clear hF F
        simp only [go_sem, reduceIte, reduceCtorEq, Nat.reduceLT, Nat.reduceLeDiff, Nat.reduceEqDiff, Nat.reduceAdd, Nat.reduceSub, Nat.reduceMul, Int.reduceEq, Int.reduceLT, Int.reduceLE, Int.reduceToNat, hk, h5]
        refine run_condA (by simp only [evL, evC, tg, reduceIte, Nat.reduceEqDiff]; rfl) (fun h39 => ?_) (fun h39 => ?_)
        · try simp only [decide_eq_true_eq, decide_eq_false_iff_not, Bool.not_eq_true', Bool.not_eq_false'] at h39
          refine run_seq ?_
          refine run_regS [4, 5] (by decide) (fun F hF => ?_)
          simp only [go_sem, reduceIte, reduceCtorEq, Nat.reduceLT, Nat.reduceLeDiff, Nat.reduceEqDiff, Nat.reduceAdd, Nat.reduceSub, Nat.reduceMul, Int.reduceEq, Int.reduceLT, Int.reduceLE, Int.reduceToNat, hk, h5]
          refine hF _ ?_; clear hF F
          simp only [go_sem, reduceIte, reduceCtorEq, Nat.reduceLT, Nat.reduceLeDiff, Nat.reduceEqDiff, Nat.reduceAdd, Nat.reduceSub, Nat.reduceMul, Int.reduceEq, Int.reduceLT, Int.reduceLE, Int.reduceToNat, hk, h5]
          refine run_ret ?_
          refine fin_ofF (.inr rfl) [58, 63, 69, 70, 75, 81, 84, 85, 86] (show resVL _ _ [.cell 4 25, .tmp 5] = some _ from by simp only [go_sem, reduceIte, reduceCtorEq, Nat.reduceLT, Nat.reduceLeDiff, Nat.reduceEqDiff, Nat.reduceAdd, Nat.reduceSub, Nat.reduceMul, Int.reduceEq, Int.reduceLT, Int.reduceLE, Int.reduceToNat, resVL, resV1, AS.den, ldT_ty]; rfl) ?_ (by first | rfl | exact unA_clo _ | simp only [AV.clo, cloL, encV_clo, Bool.and_true, iA, bA])
          try simp only [go_sem, reduceIte, reduceCtorEq, Nat.reduceLT, Nat.reduceLeDiff, Nat.reduceEqDiff, Nat.reduceAdd, Nat.reduceSub, Nat.reduceMul, Int.reduceEq, Int.reduceLT, Int.reduceLE, Int.reduceToNat, AS.den, resV_one, resV_two, resV_three, clA_nil]
          show Le _ (unA (unsetV (s :: p) v))
          have hpn : ¬ p = [] := by rintro rfl; simp at h26
          rw [unsetV_up hch hpn hy (by simpa using h39)]; exact .refl _
        · try simp only [decide_eq_true_eq, decide_eq_false_iff_not, Bool.not_eq_true', Bool.not_eq_false'] at h39
          refine run_skip ?_
          refine run_seq ?_
          refine run_regS [4, 7] (by decide) (fun F hF => ?_)
          simp only [go_sem, reduceIte, reduceCtorEq, Nat.reduceLT, Nat.reduceLeDiff, Nat.reduceEqDiff, Nat.reduceAdd, Nat.reduceSub, Nat.reduceMul, Int.reduceEq, Int.reduceLT, Int.reduceLE, Int.reduceToNat, hk, h5, h0, hset, Nat.zero_add, le_add0, take_map_len, drop_map_len, ge0_len1, one_le_len1, Int.toNat_natCast, Int.reduceToNat, Int.toNat_one, Int.toNat_zero, Int.le_refl, Int.natCast_nonneg, List.drop_zero]
          repeat (first | (apply And.intro; · omega) | simp only [go_sem, reduceIte, reduceCtorEq, Nat.reduceLT, Nat.reduceLeDiff, Nat.reduceEqDiff, Nat.reduceAdd, Nat.reduceSub, Nat.reduceMul, Int.reduceEq, Int.reduceLT, Int.reduceLE, Int.reduceToNat, hk, h5, h0, hset, Nat.zero_add, le_add0, take_map_len, drop_map_len, ge0_len1, one_le_len1, Int.toNat_natCast, Int.reduceToNat, Int.toNat_one, Int.toNat_zero, Int.le_refl, Int.natCast_nonneg, List.drop_zero])
          refine hF _ ?_; clear hF F
          simp only [go_sem, reduceIte, reduceCtorEq, Nat.reduceLT, Nat.reduceLeDiff, Nat.reduceEqDiff, Nat.reduceAdd, Nat.reduceSub, Nat.reduceMul, Int.reduceEq, Int.reduceLT, Int.reduceLE, Int.reduceToNat, hk, h5, h0, hset, Nat.zero_add, le_add0, take_map_len, drop_map_len, ge0_len1, one_le_len1, Int.toNat_natCast, Int.reduceToNat, Int.toNat_one, Int.toNat_zero, Int.le_refl, Int.natCast_nonneg, List.drop_zero]
          refine run_seq ?_
          refine run_regS [4, 5] (by decide) (fun F hF => ?_)
          simp only [go_sem, reduceIte, reduceCtorEq, Nat.reduceLT, Nat.reduceLeDiff, Nat.reduceEqDiff, Nat.reduceAdd, Nat.reduceSub, Nat.reduceMul, Int.reduceEq, Int.reduceLT, Int.reduceLE, Int.reduceToNat, hk, h5]
          refine hF _ ?_; clear hF F
          simp only [go_sem, reduceIte, reduceCtorEq, Nat.reduceLT, Nat.reduceLeDiff, Nat.reduceEqDiff, Nat.reduceAdd, Nat.reduceSub, Nat.reduceMul, Int.reduceEq, Int.reduceLT, Int.reduceLE, Int.reduceToNat, hk, h5]
          refine run_ret ?_
          refine fin_ofF (.inr rfl) [58, 63, 69, 70, 75, 81, 84, 85, 86] (show resVL _ _ [.cell 4 25, .tmp 5] = some _ from by simp only [go_sem, reduceIte, reduceCtorEq, Nat.reduceLT, Nat.reduceLeDiff, Nat.reduceEqDiff, Nat.reduceAdd, Nat.reduceSub, Nat.reduceMul, Int.reduceEq, Int.reduceLT, Int.reduceLE, Int.reduceToNat, resVL, resV1, AS.den, ldT_ty]; rfl) ?_ (by first | rfl | exact unA_clo _ | simp only [AV.clo, cloL, encV_clo, Bool.and_true, iA, bA])
          try simp only [go_sem, reduceIte, reduceCtorEq, Nat.reduceLT, Nat.reduceLeDiff, Nat.reduceEqDiff, Nat.reduceAdd, Nat.reduceSub, Nat.reduceMul, Int.reduceEq, Int.reduceLT, Int.reduceLE, Int.reduceToNat, AS.den, resV_one, resV_two, resV_three, clA_nil]
          show Le _ (unA (unsetV (s :: p) v))
          have hpn : ¬ p = [] := by rintro rfl; simp at h26
          rw [unsetV_dn hch hpn hy (by simpa using h39), put_list hk]
          exact unA_of ⟨5, 0, [], []⟩ _ _ _ _ (.nil 1) (le_putAll _ _ _ _ _ _)
      · try simp only [decide_eq_true_eq, decide_eq_false_iff_not, Bool.not_eq_true', Bool.not_eq_false'] at h26
        refine run_skip ?_
        refine run_seq ?_
        refine run_seq ?_
        refine run_regS [4, 6, 7, 49] (by decide) (fun F hF => ?_)
        simp only [go_sem, reduceIte, reduceCtorEq, Nat.reduceLT, Nat.reduceLeDiff, Nat.reduceEqDiff, Nat.reduceAdd, Nat.reduceSub, Nat.reduceMul, Int.reduceEq, Int.reduceLT, Int.reduceLE, Int.reduceToNat, hk, h5]
        refine hF _ ?_; clear hF F
        simp only [go_sem, reduceIte, reduceCtorEq, Nat.reduceLT, Nat.reduceLeDiff, Nat.reduceEqDiff, Nat.reduceAdd, Nat.reduceSub, Nat.reduceMul, Int.reduceEq, Int.reduceLT, Int.reduceLE, Int.reduceToNat, hk, h5]
        refine run_condA (by simp only [evL, evC, tg, reduceIte, Nat.reduceEqDiff]; rfl) (fun h49 => ?_) (fun h49 => ?_)
        · try simp only [decide_eq_true_eq, decide_eq_false_iff_not, Bool.not_eq_true', Bool.not_eq_false'] at h49
          refine run_seq ?_
          refine run_regS [4, 7] (by decide) (fun F hF => ?_)
          simp only [go_sem, reduceIte, reduceCtorEq, Nat.reduceLT, Nat.reduceLeDiff, Nat.reduceEqDiff, Nat.reduceAdd, Nat.reduceSub, Nat.reduceMul, Int.reduceEq, Int.reduceLT, Int.reduceLE, Int.reduceToNat, hk, h5, h0, hset, Nat.zero_add, le_add0, take_map_len, drop_map_len, ge0_len1, one_le_len1, Int.toNat_natCast, Int.reduceToNat, Int.toNat_one, Int.toNat_zero, Int.le_refl, Int.natCast_nonneg, List.drop_zero]
          repeat (first | (apply And.intro; · omega) | simp only [go_sem, reduceIte, reduceCtorEq, Nat.reduceLT, Nat.reduceLeDiff, Nat.reduceEqDiff, Nat.reduceAdd, Nat.reduceSub, Nat.reduceMul, Int.reduceEq, Int.reduceLT, Int.reduceLE, Int.reduceToNat, hk, h5, h0, hset, Nat.zero_add, le_add0, take_map_len, drop_map_len, ge0_len1, one_le_len1, Int.toNat_natCast, Int.reduceToNat, Int.toNat_one, Int.toNat_zero, Int.le_refl, Int.natCast_nonneg, List.drop_zero])
          refine hF _ ?_; clear hF F
          simp only [go_sem, reduceIte, reduceCtorEq, Nat.reduceLT, Nat.reduceLeDiff, Nat.reduceEqDiff, Nat.reduceAdd, Nat.reduceSub, Nat.reduceMul, Int.reduceEq, Int.reduceLT, Int.reduceLE, Int.reduceToNat, hk, h5, h0, hset, Nat.zero_add, le_add0, take_map_len, drop_map_len, ge0_len1, one_le_len1, Int.toNat_natCast, Int.reduceToNat, Int.toNat_one, Int.toNat_zero, Int.le_refl, Int.natCast_nonneg, List.drop_zero]
          refine run_seq ?_
          refine run_regS [4, 5] (by decide) (fun F hF => ?_)
          simp only [go_sem, reduceIte, reduceCtorEq, Nat.reduceLT, Nat.reduceLeDiff, Nat.reduceEqDiff, Nat.reduceAdd, Nat.reduceSub, Nat.reduceMul, Int.reduceEq, Int.reduceLT, Int.reduceLE, Int.reduceToNat, hk, h5]
          refine hF _ ?_; clear hF F
          simp only [go_sem, reduceIte, reduceCtorEq, Nat.reduceLT, Nat.reduceLeDiff, Nat.reduceEqDiff, Nat.reduceAdd, Nat.reduceSub, Nat.reduceMul, Int.reduceEq, Int.reduceLT, Int.reduceLE, Int.reduceToNat, hk, h5]
          refine run_ret ?_
          refine fin_ofF (.inr rfl) [58, 63, 69, 70, 75, 81, 84, 85, 86] (show resVL _ _ [.cell 4 25, .tmp 5] = some _ from by simp only [go_sem, reduceIte, reduceCtorEq, Nat.reduceLT, Nat.reduceLeDiff, Nat.reduceEqDiff, Nat.reduceAdd, Nat.reduceSub, Nat.reduceMul, Int.reduceEq, Int.reduceLT, Int.reduceLE, Int.reduceToNat, resVL, resV1, AS.den, ldT_ty]; rfl) ?_ (by first | rfl | exact unA_clo _ | simp only [AV.clo, cloL, encV_clo, Bool.and_true, iA, bA])
          try simp only [go_sem, reduceIte, reduceCtorEq, Nat.reduceLT, Nat.reduceLeDiff, Nat.reduceEqDiff, Nat.reduceAdd, Nat.reduceSub, Nat.reduceMul, Int.reduceEq, Int.reduceLT, Int.reduceLE, Int.reduceToNat, AS.den, resV_one, resV_two, resV_three, clA_nil]
          show Le _ (unA (unsetV (s :: p) v))
          have hp0 : p = [] := List.eq_nil_of_length_eq_zero (by omega)
          subst hp0
          rw [unsetV_list (getV_one hch hy) hk, put_list hk]
          exact unA_of ⟨5, 0, [], []⟩ _ _ _ _ (.nil 1) (le_putZero _ _ _)
        · try simp only [decide_eq_true_eq, decide_eq_false_iff_not, Bool.not_eq_true', Bool.not_eq_false'] at h49
          first | exact absurd trivial h49 | exact h49.elim | exact absurd h49 (by decide) | exact absurd rfl h49


theorem child_kind {v : JV} {s : List UInt8} (h : 0 ≤ v.child s) : v.kind = 6 ∨ (v.kind = 5 ∧ idxOk s = true) := by
  rcases Classical.em (v.kind = 6) with h6 | h6
  · exact .inl h6
  · right
    refine Classical.byContradiction fun q => ?_
    have := child_none h6 (fun e => q ⟨e.1, e.2.1⟩)
    omega
theorem runset26 (W : World) : ∀ (p : List (List UInt8)) (v : JV), cntV v ≤ 2 ^ 30 → Pure Tryd.prog W 26 [encV v, .sl 1 (p.map AV.str) []] (unA (unsetV p v))
  | [], v, hc => runset26_nil W v
  | s :: p, v, hc => by
    have ih : ∀ u, cntV u ≤ 2 ^ 30 → Pure Tryd.prog W 26 [encV u, .sl 1 (p.map AV.str) []] (unA (unsetV p u)) := fun u hu => runset26 W p u hu
    by_cases hch : v.child s < 0
    · exact runset26_no W v s p hc hch
    · obtain ⟨y, hy⟩ := child_get (j := v) (s := s) (by omega)
      rcases child_kind (v := v) (s := s) (by omega) with hk | hk
      · exact runset26_obj W v y s p hc (by omega) hy hk ih
      · exact runset26_list W v y s p hc (by omega) hy hk.1 ih

end Go.Ab

