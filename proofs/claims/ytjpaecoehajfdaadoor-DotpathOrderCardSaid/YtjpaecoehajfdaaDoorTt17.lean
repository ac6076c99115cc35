/- What is proved: contracts of functions of this translation, walked; their plain meaning. No condition beyond those that each theorem names. -/
import Derived.Test.YtjpaecoehajfdaaDoorTt16
set_option linter.all false
namespace Go.Ab
open Go Go.Proofs

set_option maxRecDepth 4000
set_option maxHeartbeats 1000000


theorem largeV_false {l : List JV} (hv : okVs l) (h : largeV l = false) : ∀ v ∈ l, cntV v ≤ 5000 := by
  unfold largeV at h
  have h1 : partsS l ≤ 5000 := by simpa using h
  have key : ∀ l : List JV, okVs l → partsS l ≤ 5000 → ∀ v ∈ l, partsV v 5000 ≤ 5000 := by
    intro l
    induction l with
    | nil => intro _ _ v hm; cases hm
    | cons j l ih =>
      intro hv h v hm
      have h2 := partsS_bd l hv.2
      have h3 := partsV_bd j 5000 hv.1 (by omega)
      have e : partsS (j :: l) = partsV j 5000 + partsS l := by simp [partsS]
      rw [e] at h
      rcases List.mem_cons.1 hm with rfl | hm
      · omega
      · exact ih hv.2 (by omega) v hm
  intro v hm
  have := partsV_le v 5000 (key l hv h1 v hm)
  omega

/-- Where no list is met but by an index, All tells what Get tells. -/
theorem meetsV : ∀ (p : List (List UInt8)) (v : JV), (∀ n s x, p[n]? = some s → getV v (p.take n) = some x → ¬ (x.kind = 5 ∧ idxOk s = false)) →
    allV v p = match getV v p with | some x => [x] | none => []
  | [], v, _ => by rw [allV, getV]
  | s :: p, v, h => by
    have h0 := h 0 s v rfl (by simp [getV])
    rw [allV_one h0, oneV]
    by_cases hc : v.child s < 0
    · rw [if_pos hc, getV_none hc]
    · rw [if_neg hc]
      obtain ⟨y, hy⟩ := child_get (j := v) (s := s) (by omega)
      rw [hy, getV_step (by omega) hy]
      refine meetsV p y fun n t x hn hx => h (n + 1) t x (by simpa using hn) ?_
      rw [List.take_succ_cons, getV_step (by omega) hy]
      exact hx

theorem getV_ok : ∀ (p : List (List UInt8)) (v z : JV), okV v → getV v p = some z → okV z
  | [], v, z, hv, h => by rw [getV] at h; cases h; exact hv
  | s :: p, v, z, hv, h => by
    rw [getV] at h
    split at h
    · cases h
    · cases hx : v.items[(v.child s).toNat]? with
      | none => rw [hx] at h; cases h
      | some y => rw [hx] at h; exact getV_ok p y z (okV_item hv hx) h

theorem le_path_take (p : List (List UInt8)) (n : Nat) (r : List AV) : Le (.sl 1 ((p.map AV.str).take n) r) (.sl 1 ((p.take n).map AV.str) []) := by rw [List.map_take]; exact .rest _ _ _


theorem meets7 (W : World) (v : JV) (p : List (List UInt8)) (hv : okV v) (hp : p.length < 2 ^ 62) : Pure Tryd.prog W 7 [encV v, .sl 1 (p.map AV.str) []] (bA true) := by
  refine pure_of_run Tryd.func7 rfl (by rw [Tryd.ntmps7]; simp) ?_
  rw [Tryd.ntmps7, st0_den]
  refine run_seq ?_
  refine run_regS [1, 2] (by decide) (fun F hF => ?_)
  simp only [go_sem, reduceIte, reduceCtorEq, Nat.reduceLT, Nat.reduceLeDiff, Nat.reduceEqDiff, Nat.reduceAdd, Nat.reduceSub, Nat.reduceMul, Int.reduceEq, Int.reduceLT, Int.reduceLE, Int.reduceToNat]
  refine hF _ ?_; clear hF F
  simp only [go_sem, reduceIte, reduceCtorEq, Nat.reduceLT, Nat.reduceLeDiff, Nat.reduceEqDiff, Nat.reduceAdd, Nat.reduceSub, Nat.reduceMul, Int.reduceEq, Int.reduceLT, Int.reduceLE, Int.reduceToNat]
  refine run_seq ?_
  refine run_seq ?_
  refine run_regJS [1, 2, 20] (fun c : Bool => ⟨[(1, .sl 1 (p.map AV.str) []), (2, .gp 2 0), (20, bA c)], [(2, .box (encV v) .own)]⟩) (fun c => c = false → (largeV [v] = false ∧ p.length ≤ 1000)) (by decide) (fun F hF => ?_) (fun c hc => ?_)
  ·
    simp only [go_sem, reduceIte, reduceCtorEq, Nat.reduceLT, Nat.reduceLeDiff, Nat.reduceEqDiff, Nat.reduceAdd, Nat.reduceSub, Nat.reduceMul, Int.reduceEq, Int.reduceLT, Int.reduceLE, Int.reduceToNat]
    refine aCall_flatF [14] (large11 W [v] (by simp) ⟨hv, trivial⟩) call11 (by simp only [pickF, pickO, hg, reduceIte, Nat.reduceEqDiff, clL, clA, lk, encV_clA, clA_nil, Nat.zero_add, Nat.add_zero, Nat.reduceAdd, Nat.reduceLeDiff, Nat.le_refl, List.length_cons, List.length_nil, List.length_map, List.drop_zero, List.take_succ_cons, List.take_zero, List.take_nil, take_map_len]; exact (.cons (.refl _) .nil)) (by first | rfl | simp only [cloL, encV_clo, AV.clo, Bool.and_true, iA, bA, lsA_clo]) (by rfl) ?_
    try simp only [go_sem, reduceIte, reduceCtorEq, Nat.reduceLT, Nat.reduceLeDiff, Nat.reduceEqDiff, Nat.reduceAdd, Nat.reduceSub, Nat.reduceMul, Int.reduceEq, Int.reduceLT, Int.reduceLE, Int.reduceToNat]
    all_goals (try (refine aB_split' (fun hg0 => ?_) (fun hg0 => ?_) <;> simp only [go_sem, reduceIte, reduceCtorEq, Nat.reduceLT, Nat.reduceLeDiff, Nat.reduceEqDiff, Nat.reduceAdd, Nat.reduceSub, Nat.reduceMul, Int.reduceEq, Int.reduceLT, Int.reduceLE, Int.reduceToNat, hg0]))
    all_goals (refine hF _ ?_; clear hF F; simp only [go_sem, reduceIte, reduceCtorEq, Nat.reduceLT, Nat.reduceLeDiff, Nat.reduceEqDiff, Nat.reduceAdd, Nat.reduceSub, Nat.reduceMul, Int.reduceEq, Int.reduceLT, Int.reduceLE, Int.reduceToNat])
    · exact ⟨true, by simp, rfl⟩
    · refine ⟨_, ?_, rfl⟩
      intro h
      simp only [decide_eq_true_eq, decide_eq_false_iff_not, Bool.not_eq_true', Bool.not_eq_false'] at *
      exact ⟨hg0, by omega⟩
  refine run_condA (by simp only [evL, evC, tg, reduceIte, Nat.reduceEqDiff]; rfl) (fun h20 => ?_) (fun h20 => ?_)
  · try simp only [decide_eq_true_eq, decide_eq_false_iff_not, Bool.not_eq_true', Bool.not_eq_false'] at h20
    refine run_seq ?_
    refine run_regS [4] (by decide) (fun F hF => ?_)
    simp only [go_sem, reduceIte, reduceCtorEq, Nat.reduceLT, Nat.reduceLeDiff, Nat.reduceEqDiff, Nat.reduceAdd, Nat.reduceSub, Nat.reduceMul, Int.reduceEq, Int.reduceLT, Int.reduceLE, Int.reduceToNat]
    refine aCall_flat0 (live12 W) call12 .nil (by first | rfl | simp only [cloL, encV_clo, AV.clo, Bool.and_true, iA, bA, lsA_clo]) (by rfl) ?_
    try simp only [go_sem, reduceIte, reduceCtorEq, Nat.reduceLT, Nat.reduceLeDiff, Nat.reduceEqDiff, Nat.reduceAdd, Nat.reduceSub, Nat.reduceMul, Int.reduceEq, Int.reduceLT, Int.reduceLE, Int.reduceToNat]
    refine hF _ ?_; clear hF F
    simp only [go_sem, reduceIte, reduceCtorEq, Nat.reduceLT, Nat.reduceLeDiff, Nat.reduceEqDiff, Nat.reduceAdd, Nat.reduceSub, Nat.reduceMul, Int.reduceEq, Int.reduceLT, Int.reduceLE, Int.reduceToNat]
    refine run_ret ?_
    refine fin_ofF (.inr rfl) [] rfl ?_ (by first | rfl | rfl | simp only [AV.clo, cloL, encV_clo, Bool.and_true, iA, bA])
    try simp only [go_sem, reduceIte, reduceCtorEq, Nat.reduceLT, Nat.reduceLeDiff, Nat.reduceEqDiff, Nat.reduceAdd, Nat.reduceSub, Nat.reduceMul, Int.reduceEq, Int.reduceLT, Int.reduceLE, Int.reduceToNat, AS.den, resV_one, resV_two, resV_three, clA_nil]
    exact .refl _
  · try simp only [decide_eq_true_eq, decide_eq_false_iff_not, Bool.not_eq_true', Bool.not_eq_false'] at h20
    have hq := hc h20
    have hcv : cntV v ≤ 5000 := largeV_false (l := [v]) ⟨hv, trivial⟩ hq.1 v (by simp)
    have hsv := size_cnt v
    refine run_skip ?_
    refine run_seq ?_
    refine run_seq ?_
    refine run_regS [1, 2, 5] (by decide) (fun F hF => ?_)
    simp only [go_sem, reduceIte, reduceCtorEq, Nat.reduceLT, Nat.reduceLeDiff, Nat.reduceEqDiff, Nat.reduceAdd, Nat.reduceSub, Nat.reduceMul, Int.reduceEq, Int.reduceLT, Int.reduceLE, Int.reduceToNat]
    refine hF _ ?_; clear hF F
    simp only [go_sem, reduceIte, reduceCtorEq, Nat.reduceLT, Nat.reduceLeDiff, Nat.reduceEqDiff, Nat.reduceAdd, Nat.reduceSub, Nat.reduceMul, Int.reduceEq, Int.reduceLT, Int.reduceLE, Int.reduceToNat]
    refine run_block ?_
    refine run_loopA (fun i : Nat => ⟨[(1, .sl 1 (p.map AV.str) []), (2, .gp 2 0), (5, iA i)], [(2, .box (encV v) .own)]⟩) (fun i => i ≤ p.length ∧ ∀ k, k < i → ∀ s x, p[k]? = some s → getV v (p.take k) = some x → ¬ (x.kind = 5 ∧ idxOk s = false)) (fun i => p.length - i) (0) (Sub.of_eq rfl) (⟨by omega, by intro k hk; omega⟩) (fun i hi => ?_)
    refine run_seq ?_
    refine run_seq ?_
    refine run_regS [1, 2, 5, 25] (by decide) (fun F hF => ?_)
    simp only [go_sem, reduceIte, reduceCtorEq, Nat.reduceLT, Nat.reduceLeDiff, Nat.reduceEqDiff, Nat.reduceAdd, Nat.reduceSub, Nat.reduceMul, Int.reduceEq, Int.reduceLT, Int.reduceLE, Int.reduceToNat]
    refine hF _ ?_; clear hF F
    simp only [go_sem, reduceIte, reduceCtorEq, Nat.reduceLT, Nat.reduceLeDiff, Nat.reduceEqDiff, Nat.reduceAdd, Nat.reduceSub, Nat.reduceMul, Int.reduceEq, Int.reduceLT, Int.reduceLE, Int.reduceToNat]
    refine run_condA (by simp only [evL, evC, tg, reduceIte, Nat.reduceEqDiff]; rfl) (fun h25 => ?_) (fun h25 => ?_)
    · try simp only [decide_eq_true_eq, decide_eq_false_iff_not, Bool.not_eq_true', Bool.not_eq_false'] at h25
      obtain ⟨s, hs1⟩ := getOf (l := p) (i := i) (by omega)
      refine run_skip ?_
      refine run_seq ?_
      refine run_block ?_
      refine run_seq ?_
      refine run_regD [1, 2, 5, 6, 7] (by decide) mixed0 (by decide) (fun F hF => ?_)
      simp only [go_sem, reduceIte, reduceCtorEq, Nat.reduceLT, Nat.reduceLeDiff, Nat.reduceEqDiff, Nat.reduceAdd, Nat.reduceSub, Nat.reduceMul, Int.reduceEq, Int.reduceLT, Int.reduceLE, Int.reduceToNat, getA_eq, Nat.sub_zero, le_add0, take_map_len, drop_map_len, ge0_len1, one_le_len1, Int.toNat_natCast, Int.reduceToNat, Int.toNat_one, Int.toNat_zero, Int.le_refl, Int.natCast_nonneg, List.drop_zero]
      repeat (first | (apply And.intro; · omega) | simp only [go_sem, reduceIte, reduceCtorEq, Nat.reduceLT, Nat.reduceLeDiff, Nat.reduceEqDiff, Nat.reduceAdd, Nat.reduceSub, Nat.reduceMul, Int.reduceEq, Int.reduceLT, Int.reduceLE, Int.reduceToNat, getA_eq, Nat.sub_zero, le_add0, take_map_len, drop_map_len, ge0_len1, one_le_len1, Int.toNat_natCast, Int.reduceToNat, Int.toNat_one, Int.toNat_zero, Int.le_refl, Int.natCast_nonneg, List.drop_zero])
      refine aCall_pure0 (get16 W (p.length + 1) v (p.take i) (by rw [List.length_take]; omega) hv) call16 (.cons (.refl _) (.cons (le_path_take p i _) .nil)) (by first | rfl | simp only [cloL, encV_clo, AV.clo, Bool.and_true, iA, bA, lsA_clo]) ?_
      try simp only [go_sem, reduceIte, reduceCtorEq, Nat.reduceLT, Nat.reduceLeDiff, Nat.reduceEqDiff, Nat.reduceAdd, Nat.reduceSub, Nat.reduceMul, Int.reduceEq, Int.reduceLT, Int.reduceLE, Int.reduceToNat, getA_eq, Nat.sub_zero, le_add0, take_map_len, drop_map_len, ge0_len1, one_le_len1, Int.toNat_natCast, Int.reduceToNat, Int.toNat_one, Int.toNat_zero, Int.le_refl, Int.natCast_nonneg, List.drop_zero]
      repeat (first | (apply And.intro; · omega) | simp only [go_sem, reduceIte, reduceCtorEq, Nat.reduceLT, Nat.reduceLeDiff, Nat.reduceEqDiff, Nat.reduceAdd, Nat.reduceSub, Nat.reduceMul, Int.reduceEq, Int.reduceLT, Int.reduceLE, Int.reduceToNat, getA_eq, Nat.sub_zero, le_add0, take_map_len, drop_map_len, ge0_len1, one_le_len1, Int.toNat_natCast, Int.reduceToNat, Int.toNat_one, Int.toNat_zero, Int.le_refl, Int.natCast_nonneg, List.drop_zero])
      refine ⟨by decide, ?_⟩
      refine hF _ ?_; clear hF F
      simp only [go_sem, reduceIte, reduceCtorEq, Nat.reduceLT, Nat.reduceLeDiff, Nat.reduceEqDiff, Nat.reduceAdd, Nat.reduceSub, Nat.reduceMul, Int.reduceEq, Int.reduceLT, Int.reduceLE, Int.reduceToNat, getA_eq, Nat.sub_zero, le_add0, take_map_len, drop_map_len, ge0_len1, one_le_len1, Int.toNat_natCast, Int.reduceToNat, Int.toNat_one, Int.toNat_zero, Int.le_refl, Int.natCast_nonneg, List.drop_zero]
      refine run_seq ?_
      refine run_regS [1, 2, 5, 6, 7, 9] (by decide) (fun F hF => ?_)
      simp only [go_sem, reduceIte, reduceCtorEq, Nat.reduceLT, Nat.reduceLeDiff, Nat.reduceEqDiff, Nat.reduceAdd, Nat.reduceSub, Nat.reduceMul, Int.reduceEq, Int.reduceLT, Int.reduceLE, Int.reduceToNat, hs1, idxA, List.getElem?_map, Option.map_some, le_add0, take_map_len, drop_map_len, ge0_len1, one_le_len1, Int.toNat_natCast, Int.reduceToNat, Int.toNat_one, Int.toNat_zero, Int.le_refl, Int.natCast_nonneg, List.drop_zero]
      refine aCall_pure0 (index33 W s) call33 (.cons (.refl _) .nil) (by first | rfl | simp only [cloL, encV_clo, AV.clo, Bool.and_true, iA, bA, lsA_clo]) ?_
      try simp only [go_sem, reduceIte, reduceCtorEq, Nat.reduceLT, Nat.reduceLeDiff, Nat.reduceEqDiff, Nat.reduceAdd, Nat.reduceSub, Nat.reduceMul, Int.reduceEq, Int.reduceLT, Int.reduceLE, Int.reduceToNat, hs1, idxA, List.getElem?_map, Option.map_some, le_add0, take_map_len, drop_map_len, ge0_len1, one_le_len1, Int.toNat_natCast, Int.reduceToNat, Int.toNat_one, Int.toNat_zero, Int.le_refl, Int.natCast_nonneg, List.drop_zero]
      refine hF _ ?_; clear hF F
      simp only [go_sem, reduceIte, reduceCtorEq, Nat.reduceLT, Nat.reduceLeDiff, Nat.reduceEqDiff, Nat.reduceAdd, Nat.reduceSub, Nat.reduceMul, Int.reduceEq, Int.reduceLT, Int.reduceLE, Int.reduceToNat, hs1, idxA, List.getElem?_map, Option.map_some, le_add0, take_map_len, drop_map_len, ge0_len1, one_le_len1, Int.toNat_natCast, Int.reduceToNat, Int.toNat_one, Int.toNat_zero, Int.le_refl, Int.natCast_nonneg, List.drop_zero]
      refine run_seq ?_
      refine run_regJS [1, 2, 5, 53] (fun c : Bool => ⟨[(1, .sl 1 (p.map AV.str) []), (2, .gp 2 0), (5, iA i), (53, bA c)], [(2, .box (encV v) .own)]⟩) (fun c => c = false → ∀ x, getV v (p.take i) = some x → ¬ (x.kind = 5 ∧ idxOk s = false)) (by decide) (fun F hF => ?_) (fun c hd => ?_)
      ·
        simp only [go_sem, reduceIte, reduceCtorEq, Nat.reduceLT, Nat.reduceLeDiff, Nat.reduceEqDiff, Nat.reduceAdd, Nat.reduceSub, Nat.reduceMul, Int.reduceEq, Int.reduceLT, Int.reduceLE, Int.reduceToNat]
        all_goals (try (refine aB_split (fun hg0 => ?_) (fun hg0 => ?_) <;> simp only [go_sem, reduceIte, reduceCtorEq, Nat.reduceLT, Nat.reduceLeDiff, Nat.reduceEqDiff, Nat.reduceAdd, Nat.reduceSub, Nat.reduceMul, Int.reduceEq, Int.reduceLT, Int.reduceLE, Int.reduceToNat, hg0]))
        all_goals (try (refine aB_split (fun hg1 => ?_) (fun hg1 => ?_) <;> simp only [go_sem, reduceIte, reduceCtorEq, Nat.reduceLT, Nat.reduceLeDiff, Nat.reduceEqDiff, Nat.reduceAdd, Nat.reduceSub, Nat.reduceMul, Int.reduceEq, Int.reduceLT, Int.reduceLE, Int.reduceToNat, hg0, hg1]))
        all_goals (refine hF _ ?_; clear hF F; simp only [go_sem, reduceIte, reduceCtorEq, Nat.reduceLT, Nat.reduceLeDiff, Nat.reduceEqDiff, Nat.reduceAdd, Nat.reduceSub, Nat.reduceMul, Int.reduceEq, Int.reduceLT, Int.reduceLE, Int.reduceToNat])
        · exact ⟨!idxOk s, (fun h x hx q => by rw [q.2] at h; cases h), rfl⟩
        · exact ⟨false, (fun h x hx q => by rw [hx] at hg1; simp only [Option.getD_some, decide_eq_false_iff_not] at hg1; exact hg1 q.1), rfl⟩
        · exact ⟨false, (fun h x hx q => by rw [hx] at hg0; cases hg0), rfl⟩
      refine run_condA (by simp only [evL, evC, tg, reduceIte, Nat.reduceEqDiff]; rfl) (fun h53 => ?_) (fun h53 => ?_)
      · try simp only [decide_eq_true_eq, decide_eq_false_iff_not, Bool.not_eq_true', Bool.not_eq_false'] at h53
        refine run_seq ?_
        refine run_regS [4] (by decide) (fun F hF => ?_)
        simp only [go_sem, reduceIte, reduceCtorEq, Nat.reduceLT, Nat.reduceLeDiff, Nat.reduceEqDiff, Nat.reduceAdd, Nat.reduceSub, Nat.reduceMul, Int.reduceEq, Int.reduceLT, Int.reduceLE, Int.reduceToNat]
        refine aCall_flat0 (live12 W) call12 .nil (by first | rfl | simp only [cloL, encV_clo, AV.clo, Bool.and_true, iA, bA, lsA_clo]) (by rfl) ?_
        try simp only [go_sem, reduceIte, reduceCtorEq, Nat.reduceLT, Nat.reduceLeDiff, Nat.reduceEqDiff, Nat.reduceAdd, Nat.reduceSub, Nat.reduceMul, Int.reduceEq, Int.reduceLT, Int.reduceLE, Int.reduceToNat]
        refine hF _ ?_; clear hF F
        simp only [go_sem, reduceIte, reduceCtorEq, Nat.reduceLT, Nat.reduceLeDiff, Nat.reduceEqDiff, Nat.reduceAdd, Nat.reduceSub, Nat.reduceMul, Int.reduceEq, Int.reduceLT, Int.reduceLE, Int.reduceToNat]
        refine run_ret ?_
        refine fin_ofF (.inr rfl) [] rfl ?_ (by first | rfl | rfl | simp only [AV.clo, cloL, encV_clo, Bool.and_true, iA, bA])
        try simp only [go_sem, reduceIte, reduceCtorEq, Nat.reduceLT, Nat.reduceLeDiff, Nat.reduceEqDiff, Nat.reduceAdd, Nat.reduceSub, Nat.reduceMul, Int.reduceEq, Int.reduceLT, Int.reduceLE, Int.reduceToNat, AS.den, resV_one, resV_two, resV_three, clA_nil]
        exact .refl _
      · try simp only [decide_eq_true_eq, decide_eq_false_iff_not, Bool.not_eq_true', Bool.not_eq_false'] at h53
        refine run_skip ?_
        refine run_blk ?_
        refine run_regS [1, 2, 5] (by decide) (fun F hF => ?_)
        simp only [go_sem, reduceIte, reduceCtorEq, Nat.reduceLT, Nat.reduceLeDiff, Nat.reduceEqDiff, Nat.reduceAdd, Nat.reduceSub, Nat.reduceMul, Int.reduceEq, Int.reduceLT, Int.reduceLE, Int.reduceToNat]
        refine hF _ ?_; clear hF F
        simp only [go_sem, reduceIte, reduceCtorEq, Nat.reduceLT, Nat.reduceLeDiff, Nat.reduceEqDiff, Nat.reduceAdd, Nat.reduceSub, Nat.reduceMul, Int.reduceEq, Int.reduceLT, Int.reduceLE, Int.reduceToNat]
        refine run_chk ?_
        exact ⟨i + 1, ⟨by omega, upto_succ hi.2 (fun s2 x h1 h2 => by rw [hs1] at h1; cases h1; exact hd h53 x h2)⟩, by omega, Sub.of_eq (by rw [IntWalk.i64_in _ (by omega)]; rfl)⟩
    · try simp only [decide_eq_true_eq, decide_eq_false_iff_not, Bool.not_eq_true', Bool.not_eq_false'] at h25
      have hall := meetsV p v (fun n s x hn hx => hi.2 n (by have := (List.getElem?_eq_some_iff.1 hn).1; omega) s x hn hx)
      refine run_exit (k' := _) rfl ?_
      refine run_seq ?_
      refine run_regS [1, 2, 10, 11] (by decide) (fun F hF => ?_)
      simp only [go_sem, reduceIte, reduceCtorEq, Nat.reduceLT, Nat.reduceLeDiff, Nat.reduceEqDiff, Nat.reduceAdd, Nat.reduceSub, Nat.reduceMul, Int.reduceEq, Int.reduceLT, Int.reduceLE, Int.reduceToNat, getA_eq]
      refine aCall_pure0 (get15 W v p hv) call15 (.cons (.refl _) (.cons (.refl _) .nil)) (by first | rfl | simp only [cloL, encV_clo, AV.clo, Bool.and_true, iA, bA, lsA_clo]) ?_
      try simp only [go_sem, reduceIte, reduceCtorEq, Nat.reduceLT, Nat.reduceLeDiff, Nat.reduceEqDiff, Nat.reduceAdd, Nat.reduceSub, Nat.reduceMul, Int.reduceEq, Int.reduceLT, Int.reduceLE, Int.reduceToNat, getA_eq]
      refine hF _ ?_; clear hF F
      simp only [go_sem, reduceIte, reduceCtorEq, Nat.reduceLT, Nat.reduceLeDiff, Nat.reduceEqDiff, Nat.reduceAdd, Nat.reduceSub, Nat.reduceMul, Int.reduceEq, Int.reduceLT, Int.reduceLE, Int.reduceToNat, getA_eq]
      refine run_seq ?_
      refine run_regS [10, 11, 12] (by decide) (fun F hF => ?_)
      simp only [go_sem, reduceIte, reduceCtorEq, Nat.reduceLT, Nat.reduceLeDiff, Nat.reduceEqDiff, Nat.reduceAdd, Nat.reduceSub, Nat.reduceMul, Int.reduceEq, Int.reduceLT, Int.reduceLE, Int.reduceToNat, lsA]
      refine aCall_pure0 (all17 W (stepsV v p + 1) v p (by omega) hv (by omega)) call17 (.cons (.refl _) (.cons (.refl _) .nil)) (by first | rfl | simp only [cloL, encV_clo, AV.clo, Bool.and_true, iA, bA, lsA_clo]) ?_
      try simp only [go_sem, reduceIte, reduceCtorEq, Nat.reduceLT, Nat.reduceLeDiff, Nat.reduceEqDiff, Nat.reduceAdd, Nat.reduceSub, Nat.reduceMul, Int.reduceEq, Int.reduceLT, Int.reduceLE, Int.reduceToNat, lsA]
      refine hF _ ?_; clear hF F
      simp only [go_sem, reduceIte, reduceCtorEq, Nat.reduceLT, Nat.reduceLeDiff, Nat.reduceEqDiff, Nat.reduceAdd, Nat.reduceSub, Nat.reduceMul, Int.reduceEq, Int.reduceLT, Int.reduceLE, Int.reduceToNat, lsA]
      refine run_seq ?_
      refine run_seq ?_
      refine run_regS [10, 12, 65] (by decide) (fun F hF => ?_)
      simp only [go_sem, reduceIte, reduceCtorEq, Nat.reduceLT, Nat.reduceLeDiff, Nat.reduceEqDiff, Nat.reduceAdd, Nat.reduceSub, Nat.reduceMul, Int.reduceEq, Int.reduceLT, Int.reduceLE, Int.reduceToNat]
      refine hF _ ?_; clear hF F
      simp only [go_sem, reduceIte, reduceCtorEq, Nat.reduceLT, Nat.reduceLeDiff, Nat.reduceEqDiff, Nat.reduceAdd, Nat.reduceSub, Nat.reduceMul, Int.reduceEq, Int.reduceLT, Int.reduceLE, Int.reduceToNat]
      refine run_condA (by simp only [evL, evC, tg, reduceIte, Nat.reduceEqDiff]; rfl) (fun h65 => ?_) (fun h65 => ?_)
      · try simp only [decide_eq_true_eq, decide_eq_false_iff_not, Bool.not_eq_true', Bool.not_eq_false'] at h65
        have hgn : getV v p = none := by simpa using h65
        rw [hgn] at hall
        simp only at hall
        refine run_seq ?_
        refine run_regS [4] (by decide) (fun F hF => ?_)
        simp only [go_sem, reduceIte, reduceCtorEq, Nat.reduceLT, Nat.reduceLeDiff, Nat.reduceEqDiff, Nat.reduceAdd, Nat.reduceSub, Nat.reduceMul, Int.reduceEq, Int.reduceLT, Int.reduceLE, Int.reduceToNat, hall, lsA, Int.cast_ofNat_Int]
        refine aCall_flat0 (live12 W) call12 .nil (by first | rfl | simp only [cloL, encV_clo, AV.clo, Bool.and_true, iA, bA, lsA_clo]) (by rfl) ?_
        try simp only [go_sem, reduceIte, reduceCtorEq, Nat.reduceLT, Nat.reduceLeDiff, Nat.reduceEqDiff, Nat.reduceAdd, Nat.reduceSub, Nat.reduceMul, Int.reduceEq, Int.reduceLT, Int.reduceLE, Int.reduceToNat, hall, lsA, Int.cast_ofNat_Int]
        refine hF _ ?_; clear hF F
        simp only [go_sem, reduceIte, reduceCtorEq, Nat.reduceLT, Nat.reduceLeDiff, Nat.reduceEqDiff, Nat.reduceAdd, Nat.reduceSub, Nat.reduceMul, Int.reduceEq, Int.reduceLT, Int.reduceLE, Int.reduceToNat, hall, lsA, Int.cast_ofNat_Int]
        refine run_ret ?_
        refine fin_ofF (.inr rfl) [] rfl ?_ (by first | rfl | rfl | simp only [AV.clo, cloL, encV_clo, Bool.and_true, iA, bA])
        try simp only [go_sem, reduceIte, reduceCtorEq, Nat.reduceLT, Nat.reduceLeDiff, Nat.reduceEqDiff, Nat.reduceAdd, Nat.reduceSub, Nat.reduceMul, Int.reduceEq, Int.reduceLT, Int.reduceLE, Int.reduceToNat, AS.den, resV_one, resV_two, resV_three, clA_nil]
        exact .refl _
      · try simp only [decide_eq_true_eq, decide_eq_false_iff_not, Bool.not_eq_true', Bool.not_eq_false'] at h65
        obtain ⟨z, hgn⟩ : ∃ z, getV v p = some z := by cases h : getV v p with
        | none => rw [h] at h65; simp at h65
        | some z => exact ⟨z, rfl⟩
        have hz := getV_ok p v z hv hgn
        rw [hgn] at hall
        simp only at hall
        refine run_skip ?_
        refine run_seq ?_
        refine run_regD [4] (by decide) mixed0 (by decide) (fun F hF => ?_)
        simp only [go_sem, reduceIte, reduceCtorEq, Nat.reduceLT, Nat.reduceLeDiff, Nat.reduceEqDiff, Nat.reduceAdd, Nat.reduceSub, Nat.reduceMul, Int.reduceEq, Int.reduceLT, Int.reduceLE, Int.reduceToNat, hall, hgn, lsA, Int.cast_ofNat_Int, Option.getD_some, eqV_true, le_add0, take_map_len, drop_map_len, ge0_len1, one_le_len1, Int.toNat_natCast, Int.reduceToNat, Int.toNat_one, Int.toNat_zero, Int.le_refl, Int.natCast_nonneg, List.drop_zero]
        repeat (first | (apply And.intro; · omega) | simp only [go_sem, reduceIte, reduceCtorEq, Nat.reduceLT, Nat.reduceLeDiff, Nat.reduceEqDiff, Nat.reduceAdd, Nat.reduceSub, Nat.reduceMul, Int.reduceEq, Int.reduceLT, Int.reduceLE, Int.reduceToNat, hall, hgn, lsA, Int.cast_ofNat_Int, Option.getD_some, eqV_true, le_add0, take_map_len, drop_map_len, ge0_len1, one_le_len1, Int.toNat_natCast, Int.reduceToNat, Int.toNat_one, Int.toNat_zero, Int.le_refl, Int.natCast_nonneg, List.drop_zero])
        refine aCall_flat0 (equal19 W z z hz hz) call19 (.cons (.refl _) (.cons (.refl _) .nil)) (by first | rfl | simp only [cloL, encV_clo, AV.clo, Bool.and_true, iA, bA, lsA_clo]) (by rfl) ?_
        try simp only [go_sem, reduceIte, reduceCtorEq, Nat.reduceLT, Nat.reduceLeDiff, Nat.reduceEqDiff, Nat.reduceAdd, Nat.reduceSub, Nat.reduceMul, Int.reduceEq, Int.reduceLT, Int.reduceLE, Int.reduceToNat, hall, hgn, lsA, Int.cast_ofNat_Int, Option.getD_some, eqV_true, le_add0, take_map_len, drop_map_len, ge0_len1, one_le_len1, Int.toNat_natCast, Int.reduceToNat, Int.toNat_one, Int.toNat_zero, Int.le_refl, Int.natCast_nonneg, List.drop_zero]
        refine aCall_flat0 (live12 W) call12 .nil (by first | rfl | simp only [cloL, encV_clo, AV.clo, Bool.and_true, iA, bA, lsA_clo]) (by rfl) ?_
        try simp only [go_sem, reduceIte, reduceCtorEq, Nat.reduceLT, Nat.reduceLeDiff, Nat.reduceEqDiff, Nat.reduceAdd, Nat.reduceSub, Nat.reduceMul, Int.reduceEq, Int.reduceLT, Int.reduceLE, Int.reduceToNat, hall, hgn, lsA, Int.cast_ofNat_Int, Option.getD_some, eqV_true, le_add0, take_map_len, drop_map_len, ge0_len1, one_le_len1, Int.toNat_natCast, Int.reduceToNat, Int.toNat_one, Int.toNat_zero, Int.le_refl, Int.natCast_nonneg, List.drop_zero]
        refine ⟨by decide, ?_⟩
        refine hF _ ?_; clear hF F
        simp only [go_sem, reduceIte, reduceCtorEq, Nat.reduceLT, Nat.reduceLeDiff, Nat.reduceEqDiff, Nat.reduceAdd, Nat.reduceSub, Nat.reduceMul, Int.reduceEq, Int.reduceLT, Int.reduceLE, Int.reduceToNat, hall, hgn, lsA, Int.cast_ofNat_Int, Option.getD_some, eqV_true, le_add0, take_map_len, drop_map_len, ge0_len1, one_le_len1, Int.toNat_natCast, Int.reduceToNat, Int.toNat_one, Int.toNat_zero, Int.le_refl, Int.natCast_nonneg, List.drop_zero]
        refine run_ret ?_
        refine fin_ofF (.inr rfl) [] rfl ?_ (by first | rfl | rfl | simp only [AV.clo, cloL, encV_clo, Bool.and_true, iA, bA])
        try simp only [go_sem, reduceIte, reduceCtorEq, Nat.reduceLT, Nat.reduceLeDiff, Nat.reduceEqDiff, Nat.reduceAdd, Nat.reduceSub, Nat.reduceMul, Int.reduceEq, Int.reduceLT, Int.reduceLE, Int.reduceToNat, AS.den, resV_one, resV_two, resV_three, clA_nil]
        exact .refl _
end Go.Ab

