/- What is proved: contracts of functions of this translation, walked; their plain meaning. No condition beyond those that each theorem names. -/
import Derived.Test.YtjpaecoehajfdaaDoorTt14
set_option linter.all false
namespace Go.Ab
open Go Go.Proofs

set_option maxRecDepth 4000
set_option maxHeartbeats 1000000


mutual
/-- The parts of a value, counted as far as a most. -/
def partsV : JV → Int → Int
  | .mk h l, m => partsL l m (1 + h.names.length)
def partsL : List JV → Int → Int → Int
  | [], _, n => n
  | j :: l, m, n => if n ≤ m then partsL l m (n + partsV j (m - n)) else n
end
theorem partsV_eq (v : JV) (m : Int) : partsV v m = partsL v.items m (1 + v.names.length) := by cases v; rfl

mutual
theorem partsV_bd : ∀ (v : JV) (m : Int), okV v → 0 ≤ m → 1 ≤ partsV v m ∧ partsV v m ≤ m + 1 + 2 ^ 50
  | .mk h l, m, hv, hm => by
    simp only [partsV]
    have := okV_nm hv
    exact partsL_bd l m (1 + h.names.length) hv.2.2 hm (by omega) (by simp only [JV.names, JV.hd] at this; omega)
theorem partsL_bd : ∀ (l : List JV) (m n : Int), okVs l → 0 ≤ m → 1 ≤ n → n ≤ m + 1 + 2 ^ 50 → 1 ≤ partsL l m n ∧ partsL l m n ≤ m + 1 + 2 ^ 50
  | [], m, n, _, _, h1, h2 => ⟨h1, h2⟩
  | j :: l, m, n, hv, hm, h1, h2 => by
    simp only [partsL]
    split
    · have := partsV_bd j (m - n) hv.1 (by omega)
      exact partsL_bd l m _ hv.2 hm (by omega) (by omega)
    · exact ⟨h1, h2⟩
end

mutual
theorem partsV_le : ∀ (v : JV) (m : Int), partsV v m ≤ m → (cntV v : Int) ≤ m
  | .mk h l, m, hm => by
    simp only [partsV] at hm
    have := partsL_le l m (1 + h.names.length) hm
    simp only [cntV]; omega
theorem partsL_le : ∀ (l : List JV) (m n : Int), partsL l m n ≤ m → n + (cntVs l : Int) ≤ m
  | [], m, n, h => by simp only [partsL] at h; simp only [cntVs]; omega
  | j :: l, m, n, h => by
    simp only [partsL] at h
    split at h
    · rename_i hn
      have h1 := partsL_le l m _ h
      have h2 : partsV j (m - n) ≤ m - n := by omega
      have h3 := partsV_le j (m - n) h2
      have h4 := partsV_ge j (m - n)
      simp only [cntVs]
      rcases h4 with h4 | h4 <;> omega
    · omega
theorem partsV_ge : ∀ (v : JV) (m : Int), partsV v m = cntV v ∨ m < partsV v m
  | .mk h l, m => by
    simp only [partsV, cntV]
    rcases partsL_ge l m (1 + h.names.length) with e | e
    · left; rw [e]; omega
    · right; exact e
theorem partsL_ge : ∀ (l : List JV) (m n : Int), partsL l m n = n + (cntVs l : Int) ∨ m < partsL l m n
  | [], m, n => by left; simp [partsL, cntVs]
  | j :: l, m, n => by
    simp only [partsL]
    split
    · rcases partsV_ge j (m - n) with e | e
      · rcases partsL_ge l m (n + partsV j (m - n)) with e2 | e2
        · left; rw [e2, e]; simp only [cntVs]; omega
        · right; exact e2
      · rcases partsL_ge l m (n + partsV j (m - n)) with e2 | e2
        · right; rw [e2]; omega
        · right; exact e2
    · right; omega
end

theorem partsL_stop {l : List JV} {m n : Int} (h : ¬ n ≤ m) : partsL l m n = n := by
  cases l with
  | nil => rfl
  | cons j l => simp only [partsL]; rw [if_neg h]


theorem parts45_step (W : World) (v : JV) (m : Int) (hv : okV v) (hm : 0 ≤ m) (hm2 : m ≤ 2 ^ 32) (ih : ∀ u k, sizeV u < sizeV v → okV u → 0 ≤ k → k ≤ 2 ^ 32 → Pure Tryd.prog W 45 [encV u, iA k] (iA (partsV u k))) : Pure Tryd.prog W 45 [encV v, iA m] (iA (partsV v m)) := by
  have hn := okV_nm hv
  have hl := okV_len hv
  have hw : IntKind.i64.wrap (1 + (v.names.length : Int)) = 1 + (v.names.length : Int) := by rw [IntWalk.i64_in _ (by omega)]
  refine pure_of_run Tryd.func45 rfl (by rw [Tryd.ntmps45]; simp) ?_
  rw [Tryd.ntmps45, st0_den]
  refine run_seq ?_
  refine run_regS [1, 2] (by decide) (fun F hF => ?_)
  simp only [go_sem, reduceIte, reduceCtorEq, Nat.reduceLT, Nat.reduceLeDiff, Nat.reduceEqDiff, Nat.reduceAdd, Nat.reduceSub, Nat.reduceMul, Int.reduceEq, Int.reduceLT, Int.reduceLE, Int.reduceToNat]
  refine hF _ ?_; clear hF F
  simp only [go_sem, reduceIte, reduceCtorEq, Nat.reduceLT, Nat.reduceLeDiff, Nat.reduceEqDiff, Nat.reduceAdd, Nat.reduceSub, Nat.reduceMul, Int.reduceEq, Int.reduceLT, Int.reduceLE, Int.reduceToNat]
  refine run_seq ?_
  refine run_regS [1, 2, 5] (by decide) (fun F hF => ?_)
  simp only [go_sem, reduceIte, reduceCtorEq, Nat.reduceLT, Nat.reduceLeDiff, Nat.reduceEqDiff, Nat.reduceAdd, Nat.reduceSub, Nat.reduceMul, Int.reduceEq, Int.reduceLT, Int.reduceLE, Int.reduceToNat, hw]
  refine hF _ ?_; clear hF F
  simp only [go_sem, reduceIte, reduceCtorEq, Nat.reduceLT, Nat.reduceLeDiff, Nat.reduceEqDiff, Nat.reduceAdd, Nat.reduceSub, Nat.reduceMul, Int.reduceEq, Int.reduceLT, Int.reduceLE, Int.reduceToNat, hw]
  refine run_seq ?_
  refine run_seq ?_
  refine run_regS [1, 2, 5, 6] (by decide) (fun F hF => ?_)
  simp only [go_sem, reduceIte, reduceCtorEq, Nat.reduceLT, Nat.reduceLeDiff, Nat.reduceEqDiff, Nat.reduceAdd, Nat.reduceSub, Nat.reduceMul, Int.reduceEq, Int.reduceLT, Int.reduceLE, Int.reduceToNat]
  refine hF _ ?_; clear hF F
  simp only [go_sem, reduceIte, reduceCtorEq, Nat.reduceLT, Nat.reduceLeDiff, Nat.reduceEqDiff, Nat.reduceAdd, Nat.reduceSub, Nat.reduceMul, Int.reduceEq, Int.reduceLT, Int.reduceLE, Int.reduceToNat]
  refine run_block ?_
  refine run_loopA (fun q : Nat × Int => ⟨[(1, iA m), (2, .gp 2 0), (5, iA q.2), (6, iA q.1)], [(2, .box (encV v) .own)]⟩) (fun q => q.1 ≤ v.items.length ∧ partsV v m = partsL (v.items.drop q.1) m q.2 ∧ 1 ≤ q.2 ∧ q.2 ≤ m + 1 + 2 ^ 50) (fun q => v.items.length - q.1) ((0, 1 + (v.names.length : Int))) (Sub.of_eq rfl) (⟨by simp, by rw [partsV_eq]; simp, by simp only; omega, by simp only; omega⟩) (fun q hi => ?_)
  refine run_seq ?_
  refine run_seq ?_
  refine run_regJS [1, 2, 5, 6, 20] (fun b : Bool => ⟨[(1, iA m), (2, .gp 2 0), (5, iA q.2), (6, iA q.1), (20, bA b)], [(2, .box (encV v) .own)]⟩) (fun b => b = decide (q.1 < v.items.length ∧ q.2 ≤ m)) (by decide) (fun F hF => ?_) (fun b hb => ?_)
  ·
    simp only [go_sem, reduceIte, reduceCtorEq, Nat.reduceLT, Nat.reduceLeDiff, Nat.reduceEqDiff, Nat.reduceAdd, Nat.reduceSub, Nat.reduceMul, Int.reduceEq, Int.reduceLT, Int.reduceLE, Int.reduceToNat]
    all_goals (try (refine aB_split (fun hg0 => ?_) (fun hg0 => ?_) <;> simp only [go_sem, reduceIte, reduceCtorEq, Nat.reduceLT, Nat.reduceLeDiff, Nat.reduceEqDiff, Nat.reduceAdd, Nat.reduceSub, Nat.reduceMul, Int.reduceEq, Int.reduceLT, Int.reduceLE, Int.reduceToNat, hg0]))
    all_goals (refine hF _ ?_; clear hF F; simp only [go_sem, reduceIte, reduceCtorEq, Nat.reduceLT, Nat.reduceLeDiff, Nat.reduceEqDiff, Nat.reduceAdd, Nat.reduceSub, Nat.reduceMul, Int.reduceEq, Int.reduceLT, Int.reduceLE, Int.reduceToNat])
    · refine ⟨decide (q.2 ≤ m), ?_, rfl⟩
      simp only [decide_eq_true_eq] at hg0
      rw [decide_eq_decide]; omega
    · refine ⟨false, ?_, rfl⟩
      simp only [decide_eq_false_iff_not] at hg0
      exact (decide_eq_false (by omega)).symm
  refine run_condA (by simp only [evL, evC, tg, reduceIte, Nat.reduceEqDiff]; rfl) (fun h20 => ?_) (fun h20 => ?_)
  · try simp only [decide_eq_true_eq, decide_eq_false_iff_not, Bool.not_eq_true', Bool.not_eq_false'] at h20
    rw [hb] at h20; simp only [decide_eq_true_eq] at h20
    obtain ⟨x, hx⟩ := getOf (l := v.items) (i := q.1) (by omega)
    have hsz := sizeV_item hx
    have hbd := partsV_bd x (m - q.2) (okV_item hv hx) (by omega)
    have hw2 : IntKind.i64.wrap (m - q.2) = m - q.2 := by rw [IntWalk.i64_in _ (by omega)]
    have hw3 : IntKind.i64.wrap (q.2 + partsV x (m - q.2)) = q.2 + partsV x (m - q.2) := by rw [IntWalk.i64_in _ (by omega)]
    refine run_skip ?_
    refine run_seq ?_
    refine run_block ?_
    refine run_regS [1, 2, 5, 6] (by decide) (fun F hF => ?_)
    simp only [go_sem, reduceIte, reduceCtorEq, Nat.reduceLT, Nat.reduceLeDiff, Nat.reduceEqDiff, Nat.reduceAdd, Nat.reduceSub, Nat.reduceMul, Int.reduceEq, Int.reduceLT, Int.reduceLE, Int.reduceToNat, hx, hw2, hw3, List.getElem?_map, Option.map_some, le_add0, take_map_len, drop_map_len, ge0_len1, one_le_len1, Int.toNat_natCast, Int.reduceToNat, Int.toNat_one, Int.toNat_zero, Int.le_refl, Int.natCast_nonneg, List.drop_zero]
    repeat (first | (apply And.intro; · omega) | simp only [go_sem, reduceIte, reduceCtorEq, Nat.reduceLT, Nat.reduceLeDiff, Nat.reduceEqDiff, Nat.reduceAdd, Nat.reduceSub, Nat.reduceMul, Int.reduceEq, Int.reduceLT, Int.reduceLE, Int.reduceToNat, hx, hw2, hw3, List.getElem?_map, Option.map_some, le_add0, take_map_len, drop_map_len, ge0_len1, one_le_len1, Int.toNat_natCast, Int.reduceToNat, Int.toNat_one, Int.toNat_zero, Int.le_refl, Int.natCast_nonneg, List.drop_zero])
    refine aCall_flat0 (ih x (m - q.2) (by omega) (okV_item hv hx) (by omega) (by omega)) call45 (.cons (.refl _) (.cons (.refl _) .nil)) (by first | rfl | simp only [cloL, encV_clo, AV.clo, Bool.and_true, iA, bA, lsA_clo]) (by rfl) ?_
    try simp only [go_sem, reduceIte, reduceCtorEq, Nat.reduceLT, Nat.reduceLeDiff, Nat.reduceEqDiff, Nat.reduceAdd, Nat.reduceSub, Nat.reduceMul, Int.reduceEq, Int.reduceLT, Int.reduceLE, Int.reduceToNat, hx, hw2, hw3, List.getElem?_map, Option.map_some, le_add0, take_map_len, drop_map_len, ge0_len1, one_le_len1, Int.toNat_natCast, Int.reduceToNat, Int.toNat_one, Int.toNat_zero, Int.le_refl, Int.natCast_nonneg, List.drop_zero]
    repeat (first | (apply And.intro; · omega) | simp only [go_sem, reduceIte, reduceCtorEq, Nat.reduceLT, Nat.reduceLeDiff, Nat.reduceEqDiff, Nat.reduceAdd, Nat.reduceSub, Nat.reduceMul, Int.reduceEq, Int.reduceLT, Int.reduceLE, Int.reduceToNat, hx, hw2, hw3, List.getElem?_map, Option.map_some, le_add0, take_map_len, drop_map_len, ge0_len1, one_le_len1, Int.toNat_natCast, Int.reduceToNat, Int.toNat_one, Int.toNat_zero, Int.le_refl, Int.natCast_nonneg, List.drop_zero])
    refine hF _ ?_; clear hF F
    simp only [go_sem, reduceIte, reduceCtorEq, Nat.reduceLT, Nat.reduceLeDiff, Nat.reduceEqDiff, Nat.reduceAdd, Nat.reduceSub, Nat.reduceMul, Int.reduceEq, Int.reduceLT, Int.reduceLE, Int.reduceToNat, hx, hw2, hw3, List.getElem?_map, Option.map_some, le_add0, take_map_len, drop_map_len, ge0_len1, one_le_len1, Int.toNat_natCast, Int.reduceToNat, Int.toNat_one, Int.toNat_zero, Int.le_refl, Int.natCast_nonneg, List.drop_zero]
    refine run_blk ?_
    refine run_regS [1, 2, 5, 6] (by decide) (fun F hF => ?_)
    simp only [go_sem, reduceIte, reduceCtorEq, Nat.reduceLT, Nat.reduceLeDiff, Nat.reduceEqDiff, Nat.reduceAdd, Nat.reduceSub, Nat.reduceMul, Int.reduceEq, Int.reduceLT, Int.reduceLE, Int.reduceToNat]
    refine hF _ ?_; clear hF F
    simp only [go_sem, reduceIte, reduceCtorEq, Nat.reduceLT, Nat.reduceLeDiff, Nat.reduceEqDiff, Nat.reduceAdd, Nat.reduceSub, Nat.reduceMul, Int.reduceEq, Int.reduceLT, Int.reduceLE, Int.reduceToNat]
    refine run_chk ?_
    refine ⟨(q.1 + 1, q.2 + partsV x (m - q.2)), ⟨by simp only; omega, ?_, by simp only; omega, by simp only; omega⟩, by simp only; omega, Sub.of_eq (by rw [IntWalk.i64_in _ (by omega)]; rfl)⟩
    rw [hi.2.1, drop_get hx, partsL, if_pos (by omega)]
  · try simp only [decide_eq_true_eq, decide_eq_false_iff_not, Bool.not_eq_true', Bool.not_eq_false'] at h20
    rw [hb] at h20; simp only [decide_eq_false_iff_not] at h20
    refine run_exit (k' := _) rfl ?_
    refine run_seq ?_
    refine run_regS [4] (by decide) (fun F hF => ?_)
    simp only [go_sem, reduceIte, reduceCtorEq, Nat.reduceLT, Nat.reduceLeDiff, Nat.reduceEqDiff, Nat.reduceAdd, Nat.reduceSub, Nat.reduceMul, Int.reduceEq, Int.reduceLT, Int.reduceLE, Int.reduceToNat]
    refine hF _ ?_; clear hF F
    simp only [go_sem, reduceIte, reduceCtorEq, Nat.reduceLT, Nat.reduceLeDiff, Nat.reduceEqDiff, Nat.reduceAdd, Nat.reduceSub, Nat.reduceMul, Int.reduceEq, Int.reduceLT, Int.reduceLE, Int.reduceToNat]
    refine run_ret ?_
    refine fin_ofF (.inr rfl) [] rfl ?_ (by first | rfl | rfl | simp only [AV.clo, cloL, encV_clo, Bool.and_true, iA, bA])
    try simp only [go_sem, reduceIte, reduceCtorEq, Nat.reduceLT, Nat.reduceLeDiff, Nat.reduceEqDiff, Nat.reduceAdd, Nat.reduceSub, Nat.reduceMul, Int.reduceEq, Int.reduceLT, Int.reduceLE, Int.reduceToNat, AS.den, resV_one, resV_two, resV_three, clA_nil]
    refine Le.of_eq (iA_congr ?_)
    rw [hi.2.1]
    rcases Nat.lt_or_ge q.1 v.items.length with h | h
    · rw [partsL_stop (by omega)]
    · rw [List.drop_of_length_le h]; rfl


theorem parts45 (W : World) : ∀ (n : Nat) (v : JV) (m : Int), sizeV v < n → okV v → 0 ≤ m → m ≤ 2 ^ 32 → Pure Tryd.prog W 45 [encV v, iA m] (iA (partsV v m))
  | 0, _, _, h, _, _, _ => by omega
  | n + 1, v, m, h, hv, h1, h2 => parts45_step W v m hv h1 h2 fun u k hu hk h3 h4 => parts45 W n u k (by omega) hk h3 h4

def partsS (l : List JV) : Int := (l.map fun v => partsV v 5000).sum
/-- Has one of these too many parts? -/
def largeV (l : List JV) : Bool := decide (5000 < partsS l)
theorem partsS_take {l : List JV} {i : Nat} {x : JV} (h : l[i]? = some x) : partsS (l.take (i + 1)) = partsS (l.take i) + partsV x 5000 := by
  unfold partsS; rw [take_snoc h, List.map_append, List.sum_append]; simp
theorem partsS_bd : ∀ (l : List JV), okVs l → 0 ≤ partsS l ∧ partsS l ≤ l.length * (5001 + 2 ^ 50)
  | [], _ => by simp [partsS]
  | j :: l, h => by
    have h1 := partsS_bd l h.2
    have h2 := partsV_bd j 5000 h.1 (by omega)
    simp only [partsS, List.map_cons, List.sum_cons, List.length_cons] at h1 ⊢
    generalize (l.map fun v => partsV v 5000).sum = z at h1 ⊢
    have e : ((l.length + 1 : Nat) : Int) * (5001 + 2 ^ 50) = (l.length : Int) * (5001 + 2 ^ 50) + (5001 + 2 ^ 50) := by
      rw [Int.natCast_add, Int.add_mul]; rfl
    rw [e]; omega

end Go.Ab

