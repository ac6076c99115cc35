/- What is proved: contracts of functions of this translation, walked; their plain meaning. No condition beyond those that each theorem names. -/
import Derived.Test.YtjpaecoehajfdaaDoorOl6
set_option linter.all false
namespace Go.Ab
open Go Go.Proofs

set_option maxRecDepth 4000
set_option maxHeartbeats 1000000


theorem ty52 : ty Tryd.prog 52 = { ag := true, size := 18, bytes := 312, z := .agg [.val (.int .i64 0), .val (.int .i64 0), .str [], .val (.slice none 0 0), .val (.slice none 0 0), .val (.slice none 0 0), .val (.slice none 0 0), .val (.int .i64 0), .val (.int .i64 0), .str [], .val (.slice none 0 0), .val (.slice none 0 0), .val (.int .i64 0), .val (.int .i64 0), .str [], .val (.slice none 0 0), .val (.slice none 0 0), .val (.slice none 0 0)], okz := true, fo := [(0,5),(5,1),(6,1),(7,5),(12,5),(17,1)], ok := true } := by kernel_rfl
attribute [go_sem] ty52
def twA (v : JV) (a b : List (List UInt8)) (x y : JV) (q : List (List UInt8)) : AV := .agg [.val (.int .i64 v.kind), .val (.int .i64 v.int), .str v.text, .sl 1 (v.names.map AV.str) [], .sl 5 (v.items.map encV) [], .sl 1 (a.map AV.str) [], .sl 1 (b.map AV.str) [], .val (.int .i64 x.kind), .val (.int .i64 x.int), .str x.text, .sl 1 (x.names.map AV.str) [], .sl 5 (x.items.map encV) [], .val (.int .i64 y.kind), .val (.int .i64 y.int), .str y.text, .sl 1 (y.names.map AV.str) [], .sl 5 (y.items.map encV) [], .sl 1 (q.map AV.str) []]
def getD (o : Option JV) : JV := o.getD JV.zero
theorem getA_od (o : Option JV) : getA o = .tup [encV (getD o), bA o.isSome] := by cases o <;> rfl
theorem getD_known {o : Option JV} (h : ∀ x, o = some x → knownP x) : knownP (getD o) := by
  cases o with
  | none => exact zero_known
  | some x => exact h x rfl
theorem sim_getD {a b : JV} (h : Sim a b) (ka : knownP a) (kb : knownP b) (q : List (List UInt8)) : (getV a q).isSome = (getV b q).isSome ∧ AlikeR (getD (getV a q)) (getD (getV b q)) := by
  rcases sim_getV q a b h ka kb with ⟨h1, h2⟩ | ⟨x, y, h1, h2, h3, k1, k2⟩
  · rw [h1, h2]; exact ⟨rfl, sim_alike (sim_refl _ _ (Nat.lt_succ_self _) zero_known) zero_known zero_known⟩
  · rw [h1, h2]; exact ⟨rfl, sim_alike h3 k1 k2⟩
theorem okV_getD : ∀ (q : List (List UInt8)) (v : JV), okV v → okV (getD (getV v q))
  | [], v, h => by rw [getV]; exact h
  | s :: q, v, h => by
    rw [getV]
    split
    · exact okV_cnt _ (by decide)
    · split
      · rename_i x hx
        exact okV_getD q x (okV_item h hx)
      · exact okV_cnt _ (by decide)


theorem order6 (W : World) (v x y : JV) (a b q : List (List UInt8)) (hv : okV v) (hx : okV x) (hy : okV y) (ha : a.length ≤ 8796093021952) (hb : b.length ≤ 8796093021952) (hq : q.length ≤ 8796093021952) : Pure Tryd.prog W 6 [twA v a b x y q] (bA true) := by
  refine pure_of_run Tryd.func6 rfl (by rw [Tryd.ntmps6]; simp) ?_
  rw [Tryd.ntmps6, st0_den]
  refine run_seq ?_
  refine run_regS [1] (by decide) (fun F hF => ?_)
  simp only [go_sem, reduceIte, reduceCtorEq, Nat.reduceLT, Nat.reduceLeDiff, Nat.reduceEqDiff, Nat.reduceAdd, Nat.reduceSub, Nat.reduceMul, Int.reduceEq, Int.reduceLT, Int.reduceLE, Int.reduceToNat, encV_fold, twA]
  refine hF _ ?_; clear hF F
  simp only [go_sem, reduceIte, reduceCtorEq, Nat.reduceLT, Nat.reduceLeDiff, Nat.reduceEqDiff, Nat.reduceAdd, Nat.reduceSub, Nat.reduceMul, Int.reduceEq, Int.reduceLT, Int.reduceLE, Int.reduceToNat, encV_fold, twA]
  refine run_seq ?_
  refine run_seq ?_
  refine run_regJS [1, 65] (fun c : Bool => ⟨[(1, .gp 1 0), (65, bA c)], [(1, .box (twA v a b x y q) .own)]⟩) (fun c => c = false → (largeV [v, x, y] = false ∧ a.length ≤ 1000 ∧ b.length ≤ 1000 ∧ q.length ≤ 1000 ∧ clashB a b = false ∧ knownP v ∧ knownP x ∧ knownP y)) (by decide) (fun F hF => ?_) (fun c hc => ?_)
  ·
    simp only [go_sem, reduceIte, reduceCtorEq, Nat.reduceLT, Nat.reduceLeDiff, Nat.reduceEqDiff, Nat.reduceAdd, Nat.reduceSub, Nat.reduceMul, Int.reduceEq, Int.reduceLT, Int.reduceLE, Int.reduceToNat, encV_fold, twA]
    refine aCall_flatF [21] (large11 W [v, x, y] (by simp) ⟨hv, hx, hy, trivial⟩) call11 (by simp only [pickF, pickO, hg, reduceIte, Nat.reduceEqDiff, clL, clA, lk, encV_clA, clA_nil, Nat.zero_add, Nat.add_zero, Nat.reduceAdd, Nat.reduceLeDiff, Nat.le_refl, List.length_cons, List.length_nil, List.length_map, List.drop_zero, List.take_succ_cons, List.take_zero, List.take_nil, take_map_len]; exact (.cons (.refl _) .nil)) (by first | rfl | simp only [cloL, encV_clo, AV.clo, Bool.and_true, iA, bA, lsA_clo]) (by rfl) ?_
    try simp only [go_sem, reduceIte, reduceCtorEq, Nat.reduceLT, Nat.reduceLeDiff, Nat.reduceEqDiff, Nat.reduceAdd, Nat.reduceSub, Nat.reduceMul, Int.reduceEq, Int.reduceLT, Int.reduceLE, Int.reduceToNat, encV_fold, twA]
    all_goals (try (refine aB_split' (fun hg0 => ?_) (fun hg0 => ?_) <;> simp only [go_sem, reduceIte, reduceCtorEq, Nat.reduceLT, Nat.reduceLeDiff, Nat.reduceEqDiff, Nat.reduceAdd, Nat.reduceSub, Nat.reduceMul, Int.reduceEq, Int.reduceLT, Int.reduceLE, Int.reduceToNat, encV_fold, twA, hg0]))
    all_goals (try (refine aB_split' (fun hg1 => ?_) (fun hg1 => ?_) <;> simp only [go_sem, reduceIte, reduceCtorEq, Nat.reduceLT, Nat.reduceLeDiff, Nat.reduceEqDiff, Nat.reduceAdd, Nat.reduceSub, Nat.reduceMul, Int.reduceEq, Int.reduceLT, Int.reduceLE, Int.reduceToNat, encV_fold, twA, hg0, hg1]))
    all_goals (try (refine aB_split' (fun hg2 => ?_) (fun hg2 => ?_) <;> simp only [go_sem, reduceIte, reduceCtorEq, Nat.reduceLT, Nat.reduceLeDiff, Nat.reduceEqDiff, Nat.reduceAdd, Nat.reduceSub, Nat.reduceMul, Int.reduceEq, Int.reduceLT, Int.reduceLE, Int.reduceToNat, encV_fold, twA, hg0, hg1, hg2]))
    all_goals (try (refine aB_split' (fun hg3 => ?_) (fun hg3 => ?_) <;> simp only [go_sem, reduceIte, reduceCtorEq, Nat.reduceLT, Nat.reduceLeDiff, Nat.reduceEqDiff, Nat.reduceAdd, Nat.reduceSub, Nat.reduceMul, Int.reduceEq, Int.reduceLT, Int.reduceLE, Int.reduceToNat, encV_fold, twA, hg0, hg1, hg2, hg3]))
    all_goals (try (refine aCall_flat0 (clash29 W a b (by omega) (by omega)) call29 (.cons (.refl _) (.cons (.refl _) .nil)) (by first | rfl | simp only [cloL, encV_clo, AV.clo, Bool.and_true, iA, bA, lsA_clo]) (by rfl) ?_; simp only [go_sem, reduceIte, reduceCtorEq, Nat.reduceLT, Nat.reduceLeDiff, Nat.reduceEqDiff, Nat.reduceAdd, Nat.reduceSub, Nat.reduceMul, Int.reduceEq, Int.reduceLT, Int.reduceLE, Int.reduceToNat, encV_fold, twA, hg0, hg1, hg2, hg3]))
    all_goals (try (refine aB_split' (fun hg4 => ?_) (fun hg4 => ?_) <;> simp only [go_sem, reduceIte, reduceCtorEq, Nat.reduceLT, Nat.reduceLeDiff, Nat.reduceEqDiff, Nat.reduceAdd, Nat.reduceSub, Nat.reduceMul, Int.reduceEq, Int.reduceLT, Int.reduceLE, Int.reduceToNat, encV_fold, twA, hg0, hg1, hg2, hg3, hg4]))
    all_goals (try (refine aCall_flat0 (known28 W (sizeV v + 1) v (by omega) hv) call28 (.cons (.refl _) .nil) (by first | rfl | simp only [cloL, encV_clo, AV.clo, Bool.and_true, iA, bA, lsA_clo]) (by rfl) ?_; simp only [go_sem, reduceIte, reduceCtorEq, Nat.reduceLT, Nat.reduceLeDiff, Nat.reduceEqDiff, Nat.reduceAdd, Nat.reduceSub, Nat.reduceMul, Int.reduceEq, Int.reduceLT, Int.reduceLE, Int.reduceToNat, encV_fold, twA, hg0, hg1, hg2, hg3, hg4]))
    all_goals (try (refine aB_split' (fun hg5 => ?_) (fun hg5 => ?_) <;> simp only [go_sem, reduceIte, reduceCtorEq, Nat.reduceLT, Nat.reduceLeDiff, Nat.reduceEqDiff, Nat.reduceAdd, Nat.reduceSub, Nat.reduceMul, Int.reduceEq, Int.reduceLT, Int.reduceLE, Int.reduceToNat, encV_fold, twA, hg0, hg1, hg2, hg3, hg4, hg5]))
    all_goals (try (refine aCall_flat0 (known28 W (sizeV x + 1) x (by omega) hx) call28 (.cons (.refl _) .nil) (by first | rfl | simp only [cloL, encV_clo, AV.clo, Bool.and_true, iA, bA, lsA_clo]) (by rfl) ?_; simp only [go_sem, reduceIte, reduceCtorEq, Nat.reduceLT, Nat.reduceLeDiff, Nat.reduceEqDiff, Nat.reduceAdd, Nat.reduceSub, Nat.reduceMul, Int.reduceEq, Int.reduceLT, Int.reduceLE, Int.reduceToNat, encV_fold, twA, hg0, hg1, hg2, hg3, hg4, hg5]))
    all_goals (try (refine aB_split' (fun hg6 => ?_) (fun hg6 => ?_) <;> simp only [go_sem, reduceIte, reduceCtorEq, Nat.reduceLT, Nat.reduceLeDiff, Nat.reduceEqDiff, Nat.reduceAdd, Nat.reduceSub, Nat.reduceMul, Int.reduceEq, Int.reduceLT, Int.reduceLE, Int.reduceToNat, encV_fold, twA, hg0, hg1, hg2, hg3, hg4, hg5, hg6]))
    all_goals (try (refine aCall_flat0 (known28 W (sizeV y + 1) y (by omega) hy) call28 (.cons (.refl _) .nil) (by first | rfl | simp only [cloL, encV_clo, AV.clo, Bool.and_true, iA, bA, lsA_clo]) (by rfl) ?_; simp only [go_sem, reduceIte, reduceCtorEq, Nat.reduceLT, Nat.reduceLeDiff, Nat.reduceEqDiff, Nat.reduceAdd, Nat.reduceSub, Nat.reduceMul, Int.reduceEq, Int.reduceLT, Int.reduceLE, Int.reduceToNat, encV_fold, twA, hg0, hg1, hg2, hg3, hg4, hg5, hg6]))
    all_goals (refine hF _ ?_; clear hF F; simp only [go_sem, reduceIte, reduceCtorEq, Nat.reduceLT, Nat.reduceLeDiff, Nat.reduceEqDiff, Nat.reduceAdd, Nat.reduceSub, Nat.reduceMul, Int.reduceEq, Int.reduceLT, Int.reduceLE, Int.reduceToNat, encV_fold, twA])
    all_goals first
    | exact ⟨true, by simp, rfl⟩
    | (refine ⟨_, ?_, rfl⟩
       intro h
       simp only [decide_eq_true_eq, decide_eq_false_iff_not, Bool.not_eq_true', Bool.not_eq_false'] at *
       exact ⟨hg0, by omega, by omega, by omega, hg4, knownB_iff.1 hg5, knownB_iff.1 hg6, knownB_iff.1 h⟩)
  refine run_condA (by simp only [evL, evC, tg, reduceIte, Nat.reduceEqDiff]; rfl) (fun h65 => ?_) (fun h65 => ?_)
  · try simp only [decide_eq_true_eq, decide_eq_false_iff_not, Bool.not_eq_true', Bool.not_eq_false'] at h65
    refine run_seq ?_
    refine run_regS [2] (by decide) (fun F hF => ?_)
    simp only [go_sem, reduceIte, reduceCtorEq, Nat.reduceLT, Nat.reduceLeDiff, Nat.reduceEqDiff, Nat.reduceAdd, Nat.reduceSub, Nat.reduceMul, Int.reduceEq, Int.reduceLT, Int.reduceLE, Int.reduceToNat, encV_fold, twA]
    refine aCall_flat0 (live12 W) call12 .nil (by first | rfl | simp only [cloL, encV_clo, AV.clo, Bool.and_true, iA, bA, lsA_clo]) (by rfl) ?_
    try simp only [go_sem, reduceIte, reduceCtorEq, Nat.reduceLT, Nat.reduceLeDiff, Nat.reduceEqDiff, Nat.reduceAdd, Nat.reduceSub, Nat.reduceMul, Int.reduceEq, Int.reduceLT, Int.reduceLE, Int.reduceToNat, encV_fold, twA]
    refine hF _ ?_; clear hF F
    simp only [go_sem, reduceIte, reduceCtorEq, Nat.reduceLT, Nat.reduceLeDiff, Nat.reduceEqDiff, Nat.reduceAdd, Nat.reduceSub, Nat.reduceMul, Int.reduceEq, Int.reduceLT, Int.reduceLE, Int.reduceToNat, encV_fold, twA]
    refine run_ret ?_
    refine fin_ofF (.inr rfl) [] rfl ?_ (by first | rfl | rfl | simp only [AV.clo, cloL, encV_clo, Bool.and_true, iA, bA])
    try simp only [go_sem, reduceIte, reduceCtorEq, Nat.reduceLT, Nat.reduceLeDiff, Nat.reduceEqDiff, Nat.reduceAdd, Nat.reduceSub, Nat.reduceMul, Int.reduceEq, Int.reduceLT, Int.reduceLE, Int.reduceToNat, AS.den, resV_one, resV_two, resV_three, clA_nil]
    exact .refl _
  · try simp only [decide_eq_true_eq, decide_eq_false_iff_not, Bool.not_eq_true', Bool.not_eq_false'] at h65
    obtain ⟨q1, q2, q3, q4, q5, kv, kx, ky⟩ := hc h65
    have hcv : cntV v ≤ 5000 := largeV_false (l := [v, x, y]) ⟨hv, hx, hy, trivial⟩ q1 v (by simp)
    have hcx : cntV x ≤ 5000 := largeV_false (l := [v, x, y]) ⟨hv, hx, hy, trivial⟩ q1 x (by simp)
    have hcy : cntV y ≤ 5000 := largeV_false (l := [v, x, y]) ⟨hv, hx, hy, trivial⟩ q1 y (by simp)
    have n1 := cntV_set a v x
    have n2 := cntV_set b (setV a v x).1 y
    have n3 := cntV_set b v y
    have n4 := cntV_set a (setV b v y).1 x
    refine run_skip ?_
    refine run_seq ?_
    refine run_regS [1, 3, 4] (by decide) (fun F hF => ?_)
    simp only [go_sem, reduceIte, reduceCtorEq, Nat.reduceLT, Nat.reduceLeDiff, Nat.reduceEqDiff, Nat.reduceAdd, Nat.reduceSub, Nat.reduceMul, Int.reduceEq, Int.reduceLT, Int.reduceLE, Int.reduceToNat, encV_fold, twA, setA]
    refine aCall_pure0 (set23 W x a v (by omega) (by omega)) call23 (.cons (.refl _) (.cons (.refl _) (.cons (.refl _) .nil))) (by first | rfl | simp only [cloL, encV_clo, AV.clo, Bool.and_true, iA, bA, lsA_clo]) ?_
    try simp only [go_sem, reduceIte, reduceCtorEq, Nat.reduceLT, Nat.reduceLeDiff, Nat.reduceEqDiff, Nat.reduceAdd, Nat.reduceSub, Nat.reduceMul, Int.reduceEq, Int.reduceLT, Int.reduceLE, Int.reduceToNat, encV_fold, twA, setA]
    refine hF _ ?_; clear hF F
    simp only [go_sem, reduceIte, reduceCtorEq, Nat.reduceLT, Nat.reduceLeDiff, Nat.reduceEqDiff, Nat.reduceAdd, Nat.reduceSub, Nat.reduceMul, Int.reduceEq, Int.reduceLT, Int.reduceLE, Int.reduceToNat, encV_fold, twA, setA]
    refine run_seq ?_
    refine run_regS [1, 4, 5, 6] (by decide) (fun F hF => ?_)
    simp only [go_sem, reduceIte, reduceCtorEq, Nat.reduceLT, Nat.reduceLeDiff, Nat.reduceEqDiff, Nat.reduceAdd, Nat.reduceSub, Nat.reduceMul, Int.reduceEq, Int.reduceLT, Int.reduceLE, Int.reduceToNat, encV_fold, twA, setA]
    refine aCall_pure0 (set23 W y b (setV a v x).1 (by omega) (by omega)) call23 (.cons (.refl _) (.cons (.refl _) (.cons (.refl _) .nil))) (by first | rfl | simp only [cloL, encV_clo, AV.clo, Bool.and_true, iA, bA, lsA_clo]) ?_
    try simp only [go_sem, reduceIte, reduceCtorEq, Nat.reduceLT, Nat.reduceLeDiff, Nat.reduceEqDiff, Nat.reduceAdd, Nat.reduceSub, Nat.reduceMul, Int.reduceEq, Int.reduceLT, Int.reduceLE, Int.reduceToNat, encV_fold, twA, setA]
    refine hF _ ?_; clear hF F
    simp only [go_sem, reduceIte, reduceCtorEq, Nat.reduceLT, Nat.reduceLeDiff, Nat.reduceEqDiff, Nat.reduceAdd, Nat.reduceSub, Nat.reduceMul, Int.reduceEq, Int.reduceLT, Int.reduceLE, Int.reduceToNat, encV_fold, twA, setA]
    refine run_seq ?_
    refine run_regS [1, 4, 5, 6, 7, 8] (by decide) (fun F hF => ?_)
    simp only [go_sem, reduceIte, reduceCtorEq, Nat.reduceLT, Nat.reduceLeDiff, Nat.reduceEqDiff, Nat.reduceAdd, Nat.reduceSub, Nat.reduceMul, Int.reduceEq, Int.reduceLT, Int.reduceLE, Int.reduceToNat, encV_fold, twA, setA]
    refine aCall_pure0 (set23 W y b v (by omega) (by omega)) call23 (.cons (.refl _) (.cons (.refl _) (.cons (.refl _) .nil))) (by first | rfl | simp only [cloL, encV_clo, AV.clo, Bool.and_true, iA, bA, lsA_clo]) ?_
    try simp only [go_sem, reduceIte, reduceCtorEq, Nat.reduceLT, Nat.reduceLeDiff, Nat.reduceEqDiff, Nat.reduceAdd, Nat.reduceSub, Nat.reduceMul, Int.reduceEq, Int.reduceLT, Int.reduceLE, Int.reduceToNat, encV_fold, twA, setA]
    refine hF _ ?_; clear hF F
    simp only [go_sem, reduceIte, reduceCtorEq, Nat.reduceLT, Nat.reduceLeDiff, Nat.reduceEqDiff, Nat.reduceAdd, Nat.reduceSub, Nat.reduceMul, Int.reduceEq, Int.reduceLT, Int.reduceLE, Int.reduceToNat, encV_fold, twA, setA]
    refine run_seq ?_
    refine run_regS [1, 4, 5, 6, 8, 9, 10] (by decide) (fun F hF => ?_)
    simp only [go_sem, reduceIte, reduceCtorEq, Nat.reduceLT, Nat.reduceLeDiff, Nat.reduceEqDiff, Nat.reduceAdd, Nat.reduceSub, Nat.reduceMul, Int.reduceEq, Int.reduceLT, Int.reduceLE, Int.reduceToNat, encV_fold, twA, setA]
    refine aCall_pure0 (set23 W x a (setV b v y).1 (by omega) (by omega)) call23 (.cons (.refl _) (.cons (.refl _) (.cons (.refl _) .nil))) (by first | rfl | simp only [cloL, encV_clo, AV.clo, Bool.and_true, iA, bA, lsA_clo]) ?_
    try simp only [go_sem, reduceIte, reduceCtorEq, Nat.reduceLT, Nat.reduceLeDiff, Nat.reduceEqDiff, Nat.reduceAdd, Nat.reduceSub, Nat.reduceMul, Int.reduceEq, Int.reduceLT, Int.reduceLE, Int.reduceToNat, encV_fold, twA, setA]
    refine hF _ ?_; clear hF F
    simp only [go_sem, reduceIte, reduceCtorEq, Nat.reduceLT, Nat.reduceLeDiff, Nat.reduceEqDiff, Nat.reduceAdd, Nat.reduceSub, Nat.reduceMul, Int.reduceEq, Int.reduceLT, Int.reduceLE, Int.reduceToNat, encV_fold, twA, setA]
    refine run_seq ?_
    refine run_seq ?_
    refine run_regJS [1, 5, 9, 122] (fun c : Bool => ⟨[(1, .gp 1 0), (5, .gp 5 0), (9, .gp 9 0), (122, bA c)], [(1, .box (twA v a b x y q) .own), (5, .box (encV (setV b (setV a v x).1 y).1) .own), (9, .box (encV (setV a (setV b v y).1 x).1) .own)]⟩) (fun c => c = false → ((setV a v x).2 = 0 ∧ (setV b (setV a v x).1 y).2 = 0 ∧ (setV b v y).2 = 0 ∧ (setV a (setV b v y).1 x).2 = 0)) (by decide) (fun F hF => ?_) (fun d hd => ?_)
    ·
      simp only [go_sem, reduceIte, reduceCtorEq, Nat.reduceLT, Nat.reduceLeDiff, Nat.reduceEqDiff, Nat.reduceAdd, Nat.reduceSub, Nat.reduceMul, Int.reduceEq, Int.reduceLT, Int.reduceLE, Int.reduceToNat, encV_fold, twA]
      all_goals (try (refine aCall_flat0 (num27 W _) call27 (.cons (.refl _) .nil) (by first | rfl | simp only [cloL, encV_clo, AV.clo, Bool.and_true, iA, bA, lsA_clo]) (by rfl) ?_; simp only [go_sem, reduceIte, reduceCtorEq, Nat.reduceLT, Nat.reduceLeDiff, Nat.reduceEqDiff, Nat.reduceAdd, Nat.reduceSub, Nat.reduceMul, Int.reduceEq, Int.reduceLT, Int.reduceLE, Int.reduceToNat, encV_fold, twA]))
      all_goals (try (refine aB_split' (fun hg0 => ?_) (fun hg0 => ?_) <;> simp only [go_sem, reduceIte, reduceCtorEq, Nat.reduceLT, Nat.reduceLeDiff, Nat.reduceEqDiff, Nat.reduceAdd, Nat.reduceSub, Nat.reduceMul, Int.reduceEq, Int.reduceLT, Int.reduceLE, Int.reduceToNat, encV_fold, twA, hg0]))
      all_goals (try (refine aCall_flat0 (num27 W _) call27 (.cons (.refl _) .nil) (by first | rfl | simp only [cloL, encV_clo, AV.clo, Bool.and_true, iA, bA, lsA_clo]) (by rfl) ?_; simp only [go_sem, reduceIte, reduceCtorEq, Nat.reduceLT, Nat.reduceLeDiff, Nat.reduceEqDiff, Nat.reduceAdd, Nat.reduceSub, Nat.reduceMul, Int.reduceEq, Int.reduceLT, Int.reduceLE, Int.reduceToNat, encV_fold, twA, hg0]))
      all_goals (try (refine aB_split' (fun hg1 => ?_) (fun hg1 => ?_) <;> simp only [go_sem, reduceIte, reduceCtorEq, Nat.reduceLT, Nat.reduceLeDiff, Nat.reduceEqDiff, Nat.reduceAdd, Nat.reduceSub, Nat.reduceMul, Int.reduceEq, Int.reduceLT, Int.reduceLE, Int.reduceToNat, encV_fold, twA, hg0, hg1]))
      all_goals (try (refine aCall_flat0 (num27 W _) call27 (.cons (.refl _) .nil) (by first | rfl | simp only [cloL, encV_clo, AV.clo, Bool.and_true, iA, bA, lsA_clo]) (by rfl) ?_; simp only [go_sem, reduceIte, reduceCtorEq, Nat.reduceLT, Nat.reduceLeDiff, Nat.reduceEqDiff, Nat.reduceAdd, Nat.reduceSub, Nat.reduceMul, Int.reduceEq, Int.reduceLT, Int.reduceLE, Int.reduceToNat, encV_fold, twA, hg0, hg1]))
      all_goals (try (refine aB_split' (fun hg2 => ?_) (fun hg2 => ?_) <;> simp only [go_sem, reduceIte, reduceCtorEq, Nat.reduceLT, Nat.reduceLeDiff, Nat.reduceEqDiff, Nat.reduceAdd, Nat.reduceSub, Nat.reduceMul, Int.reduceEq, Int.reduceLT, Int.reduceLE, Int.reduceToNat, encV_fold, twA, hg0, hg1, hg2]))
      all_goals (try (refine aCall_flat0 (num27 W _) call27 (.cons (.refl _) .nil) (by first | rfl | simp only [cloL, encV_clo, AV.clo, Bool.and_true, iA, bA, lsA_clo]) (by rfl) ?_; simp only [go_sem, reduceIte, reduceCtorEq, Nat.reduceLT, Nat.reduceLeDiff, Nat.reduceEqDiff, Nat.reduceAdd, Nat.reduceSub, Nat.reduceMul, Int.reduceEq, Int.reduceLT, Int.reduceLE, Int.reduceToNat, encV_fold, twA, hg0, hg1, hg2]))
      all_goals (refine hF _ ?_; clear hF F; simp only [go_sem, reduceIte, reduceCtorEq, Nat.reduceLT, Nat.reduceLeDiff, Nat.reduceEqDiff, Nat.reduceAdd, Nat.reduceSub, Nat.reduceMul, Int.reduceEq, Int.reduceLT, Int.reduceLE, Int.reduceToNat, encV_fold, twA])
      all_goals first
      | exact ⟨true, by simp, rfl⟩
      | (refine ⟨_, ?_, rfl⟩
         intro h
         simp only [decide_eq_true_eq, decide_eq_false_iff_not, Bool.not_eq_true', Bool.not_eq_false'] at *
         exact ⟨hg0, hg1, hg2, h⟩)
    refine run_condA (by simp only [evL, evC, tg, reduceIte, Nat.reduceEqDiff]; rfl) (fun h122 => ?_) (fun h122 => ?_)
    · try simp only [decide_eq_true_eq, decide_eq_false_iff_not, Bool.not_eq_true', Bool.not_eq_false'] at h122
      refine run_seq ?_
      refine run_regS [2] (by decide) (fun F hF => ?_)
      simp only [go_sem, reduceIte, reduceCtorEq, Nat.reduceLT, Nat.reduceLeDiff, Nat.reduceEqDiff, Nat.reduceAdd, Nat.reduceSub, Nat.reduceMul, Int.reduceEq, Int.reduceLT, Int.reduceLE, Int.reduceToNat, encV_fold, twA]
      refine aCall_flat0 (live12 W) call12 .nil (by first | rfl | simp only [cloL, encV_clo, AV.clo, Bool.and_true, iA, bA, lsA_clo]) (by rfl) ?_
      try simp only [go_sem, reduceIte, reduceCtorEq, Nat.reduceLT, Nat.reduceLeDiff, Nat.reduceEqDiff, Nat.reduceAdd, Nat.reduceSub, Nat.reduceMul, Int.reduceEq, Int.reduceLT, Int.reduceLE, Int.reduceToNat, encV_fold, twA]
      refine hF _ ?_; clear hF F
      simp only [go_sem, reduceIte, reduceCtorEq, Nat.reduceLT, Nat.reduceLeDiff, Nat.reduceEqDiff, Nat.reduceAdd, Nat.reduceSub, Nat.reduceMul, Int.reduceEq, Int.reduceLT, Int.reduceLE, Int.reduceToNat, encV_fold, twA]
      refine run_ret ?_
      refine fin_ofF (.inr rfl) [] rfl ?_ (by first | rfl | rfl | simp only [AV.clo, cloL, encV_clo, Bool.and_true, iA, bA])
      try simp only [go_sem, reduceIte, reduceCtorEq, Nat.reduceLT, Nat.reduceLeDiff, Nat.reduceEqDiff, Nat.reduceAdd, Nat.reduceSub, Nat.reduceMul, Int.reduceEq, Int.reduceLT, Int.reduceLE, Int.reduceToNat, AS.den, resV_one, resV_two, resV_three, clA_nil]
      exact .refl _
    · try simp only [decide_eq_true_eq, decide_eq_false_iff_not, Bool.not_eq_true', Bool.not_eq_false'] at h122
      obtain ⟨e1, e2, e3, e4⟩ := hd h122
      have hsim := set_comm a b v x y kv kx ky q5 e1 e2 e3 e4
      have kB := set_known b _ y (set_known a v x kv kx) ky
      have kD := set_known a _ x (set_known b v y kv ky) kx
      obtain ⟨hS, hR⟩ := sim_getD hsim kB kD q
      have oB : okV (setV b (setV a v x).1 y).1 := okV_cnt _ (by omega)
      have oD : okV (setV a (setV b v y).1 x).1 := okV_cnt _ (by omega)
      refine run_skip ?_
      refine run_seq ?_
      refine run_regS [1, 9, 11, 12] (by decide) (fun F hF => ?_)
      simp only [go_sem, reduceIte, reduceCtorEq, Nat.reduceLT, Nat.reduceLeDiff, Nat.reduceEqDiff, Nat.reduceAdd, Nat.reduceSub, Nat.reduceMul, Int.reduceEq, Int.reduceLT, Int.reduceLE, Int.reduceToNat, encV_fold, twA, getA_od]
      refine aCall_pure0 (get15 W _ q oB) call15 (.cons (.refl _) (.cons (.refl _) .nil)) (by first | rfl | simp only [cloL, encV_clo, AV.clo, Bool.and_true, iA, bA, lsA_clo]) ?_
      try simp only [go_sem, reduceIte, reduceCtorEq, Nat.reduceLT, Nat.reduceLeDiff, Nat.reduceEqDiff, Nat.reduceAdd, Nat.reduceSub, Nat.reduceMul, Int.reduceEq, Int.reduceLT, Int.reduceLE, Int.reduceToNat, encV_fold, twA, getA_od]
      refine hF _ ?_; clear hF F
      simp only [go_sem, reduceIte, reduceCtorEq, Nat.reduceLT, Nat.reduceLeDiff, Nat.reduceEqDiff, Nat.reduceAdd, Nat.reduceSub, Nat.reduceMul, Int.reduceEq, Int.reduceLT, Int.reduceLE, Int.reduceToNat, encV_fold, twA, getA_od]
      refine run_seq ?_
      refine run_regS [11, 12, 13, 14] (by decide) (fun F hF => ?_)
      simp only [go_sem, reduceIte, reduceCtorEq, Nat.reduceLT, Nat.reduceLeDiff, Nat.reduceEqDiff, Nat.reduceAdd, Nat.reduceSub, Nat.reduceMul, Int.reduceEq, Int.reduceLT, Int.reduceLE, Int.reduceToNat, encV_fold, twA, getA_od]
      refine aCall_pure0 (get15 W _ q oD) call15 (.cons (.refl _) (.cons (.refl _) .nil)) (by first | rfl | simp only [cloL, encV_clo, AV.clo, Bool.and_true, iA, bA, lsA_clo]) ?_
      try simp only [go_sem, reduceIte, reduceCtorEq, Nat.reduceLT, Nat.reduceLeDiff, Nat.reduceEqDiff, Nat.reduceAdd, Nat.reduceSub, Nat.reduceMul, Int.reduceEq, Int.reduceLT, Int.reduceLE, Int.reduceToNat, encV_fold, twA, getA_od]
      refine hF _ ?_; clear hF F
      simp only [go_sem, reduceIte, reduceCtorEq, Nat.reduceLT, Nat.reduceLeDiff, Nat.reduceEqDiff, Nat.reduceAdd, Nat.reduceSub, Nat.reduceMul, Int.reduceEq, Int.reduceLT, Int.reduceLE, Int.reduceToNat, encV_fold, twA, getA_od]
      refine run_seq ?_
      refine run_regS [2] (by decide) (fun F hF => ?_)
      simp only [go_sem, reduceIte, reduceCtorEq, Nat.reduceLT, Nat.reduceLeDiff, Nat.reduceEqDiff, Nat.reduceAdd, Nat.reduceSub, Nat.reduceMul, Int.reduceEq, Int.reduceLT, Int.reduceLE, Int.reduceToNat, encV_fold, twA, hS, beq_self_eq_true]
      repeat (first | (apply And.intro; · omega) | simp only [go_sem, reduceIte, reduceCtorEq, Nat.reduceLT, Nat.reduceLeDiff, Nat.reduceEqDiff, Nat.reduceAdd, Nat.reduceSub, Nat.reduceMul, Int.reduceEq, Int.reduceLT, Int.reduceLE, Int.reduceToNat, encV_fold, twA, hS, beq_self_eq_true])
      refine aCall_flat0 (alike32 W hR (okV_getD q _ oB) (okV_getD q _ oD)) call32 (.cons (.refl _) (.cons (.refl _) .nil)) (by first | rfl | simp only [cloL, encV_clo, AV.clo, Bool.and_true, iA, bA, lsA_clo]) (by rfl) ?_
      try simp only [go_sem, reduceIte, reduceCtorEq, Nat.reduceLT, Nat.reduceLeDiff, Nat.reduceEqDiff, Nat.reduceAdd, Nat.reduceSub, Nat.reduceMul, Int.reduceEq, Int.reduceLT, Int.reduceLE, Int.reduceToNat, encV_fold, twA, hS, beq_self_eq_true]
      repeat (first | (apply And.intro; · omega) | simp only [go_sem, reduceIte, reduceCtorEq, Nat.reduceLT, Nat.reduceLeDiff, Nat.reduceEqDiff, Nat.reduceAdd, Nat.reduceSub, Nat.reduceMul, Int.reduceEq, Int.reduceLT, Int.reduceLE, Int.reduceToNat, encV_fold, twA, hS, beq_self_eq_true])
      refine aCall_flat0 (live12 W) call12 .nil (by first | rfl | simp only [cloL, encV_clo, AV.clo, Bool.and_true, iA, bA, lsA_clo]) (by rfl) ?_
      try simp only [go_sem, reduceIte, reduceCtorEq, Nat.reduceLT, Nat.reduceLeDiff, Nat.reduceEqDiff, Nat.reduceAdd, Nat.reduceSub, Nat.reduceMul, Int.reduceEq, Int.reduceLT, Int.reduceLE, Int.reduceToNat, encV_fold, twA, hS, beq_self_eq_true]
      repeat (first | (apply And.intro; · omega) | simp only [go_sem, reduceIte, reduceCtorEq, Nat.reduceLT, Nat.reduceLeDiff, Nat.reduceEqDiff, Nat.reduceAdd, Nat.reduceSub, Nat.reduceMul, Int.reduceEq, Int.reduceLT, Int.reduceLE, Int.reduceToNat, encV_fold, twA, hS, beq_self_eq_true])
      refine hF _ ?_; clear hF F
      simp only [go_sem, reduceIte, reduceCtorEq, Nat.reduceLT, Nat.reduceLeDiff, Nat.reduceEqDiff, Nat.reduceAdd, Nat.reduceSub, Nat.reduceMul, Int.reduceEq, Int.reduceLT, Int.reduceLE, Int.reduceToNat, encV_fold, twA, hS, beq_self_eq_true]
      refine run_ret ?_
      refine fin_ofF (.inr rfl) [] rfl ?_ (by first | rfl | rfl | simp only [AV.clo, cloL, encV_clo, Bool.and_true, iA, bA])
      try simp only [go_sem, reduceIte, reduceCtorEq, Nat.reduceLT, Nat.reduceLeDiff, Nat.reduceEqDiff, Nat.reduceAdd, Nat.reduceSub, Nat.reduceMul, Int.reduceEq, Int.reduceLT, Int.reduceLE, Int.reduceToNat, AS.den, resV_one, resV_two, resV_three, clA_nil]
      exact .refl _
end Go.Ab

