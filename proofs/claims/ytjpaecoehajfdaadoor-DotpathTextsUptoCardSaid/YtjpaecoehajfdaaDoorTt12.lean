/- What is proved: contracts of functions of this translation, walked; their plain meaning. No condition beyond those that each theorem names. -/
import Derived.Test.YtjpaecoehajfdaaDoorTt11
set_option linter.all false
namespace Go.Ab
open Go Go.Proofs

set_option maxRecDepth 4000
set_option maxHeartbeats 1000000


def JV.grown (v : JV) (s : List UInt8) (y : JV) : JV :=
  if v.kind = 6 then .mk ⟨6, 0, [], v.names.take v.mem ++ [s]⟩ (v.items.take v.mem ++ [y]) else .mk ⟨v.kind, 0, [], []⟩ (v.items ++ [y])
def JV.put (v : JV) (i : Nat) (y : JV) : JV :=
  if v.kind = 6 then .mk ⟨6, 0, [], v.names.take v.mem⟩ ((v.items.take v.mem).set i y) else .mk ⟨v.kind, 0, [], []⟩ (v.items.set i y)

/-- A value with x laid at a path; the error's number. -/
def setV : List (List UInt8) → JV → JV → JV × Int
  | [], _, x => (x, 0)
  | s :: p, v, x =>
    if ¬ v.kind = 6 ∧ ¬ (v.kind = 5 ∧ idxOk s = true) then (JV.zero, 21)
    else if ¬ v.kind = 6 ∧ v.items.length < idx s then (JV.zero, 22)
    else if v.child s < 0 then (v.grown s (freshV p x), 0)
    else match v.items[(v.child s).toNat]? with
      | some y => if (setV p y x).2 = 0 then (v.put (v.child s).toNat (setV p y x).1, 0) else (JV.zero, (setV p y x).2)
      | none => (JV.zero, 0)

def setA (r : JV × Int) : AV := .tup [encV r.1, iA r.2]
theorem setA_clo (r : JV × Int) : (setA r).clo = true := by simp only [setA, AV.clo, cloL, encV_clo, iA, Bool.and_true]
theorem setA_le {a : AV} {n : Int} {r : JV × Int} (h : Le a (encV r.1)) (h2 : n = r.2) : Le (.tup [a, .val (.int .i64 n)]) (setA r) := by
  subst h2; exact .tup (.cons h (.cons (.refl _) .nil))
theorem child_mem {v : JV} {s : List UInt8} (h : v.kind = 6) : v.child s < v.mem := by
  rw [child_obj h, JV.place]
  have := placeL_lt s v.names v.mem 0
  simpa using this
theorem setV_grow_obj {v x : JV} {s : List UInt8} {p : List (List UInt8)} (hk : v.kind = 6) (h : v.child s < 0) : setV (s :: p) v x = (.mk ⟨6, 0, [], v.names.take v.mem ++ [s]⟩ (v.items.take v.mem ++ [freshV p x]), 0) := by
  rw [setV, if_neg (fun q => q.1 hk), if_neg (fun q => q.1 hk), if_pos h, JV.grown, if_pos hk]
theorem setV_grow_list {v x : JV} {s : List UInt8} {p : List (List UInt8)} (hk : v.kind = 5) (hi : idxOk s = true) (hn : ¬ v.items.length < idx s) (h : v.child s < 0) : setV (s :: p) v x = (.mk ⟨v.kind, 0, [], []⟩ (v.items ++ [freshV p x]), 0) := by
  rw [setV, if_neg (fun q => q.2 ⟨hk, hi⟩), if_neg (fun q => hn q.2), if_pos h, JV.grown, if_neg (by omega)]
theorem setV_cross {v x : JV} {s : List UInt8} {p : List (List UInt8)} (h1 : ¬ v.kind = 6) (h2 : ¬ (v.kind = 5 ∧ idxOk s = true)) : setV (s :: p) v x = (JV.zero, 21) := by
  rw [setV, if_pos ⟨h1, h2⟩]
theorem setV_far {v x : JV} {s : List UInt8} {p : List (List UInt8)} (hk : v.kind = 5) (hi : idxOk s = true) (hn : v.items.length < idx s) : setV (s :: p) v x = (JV.zero, 22) := by
  rw [setV, if_neg (fun q => q.2 ⟨hk, hi⟩), if_pos ⟨by omega, hn⟩]
theorem setV_down_obj {v x y : JV} {s : List UInt8} {p : List (List UInt8)} (hk : v.kind = 6) (h : ¬ v.child s < 0) (hy : v.items[(v.child s).toNat]? = some y) :
    setV (s :: p) v x = if (setV p y x).2 = 0 then (.mk ⟨6, 0, [], v.names.take v.mem⟩ ((v.items.take v.mem).set (v.child s).toNat (setV p y x).1), 0) else (JV.zero, (setV p y x).2) := by
  rw [setV, if_neg (fun q => q.1 hk), if_neg (fun q => q.1 hk), if_neg h, hy]
  simp only [JV.put, if_pos hk]
theorem setV_down_list {v x y : JV} {s : List UInt8} {p : List (List UInt8)} (hk : v.kind = 5) (hi : idxOk s = true) (hn : ¬ v.items.length < idx s) (h : ¬ v.child s < 0) (hy : v.items[(v.child s).toNat]? = some y) :
    setV (s :: p) v x = if (setV p y x).2 = 0 then (.mk ⟨v.kind, 0, [], []⟩ (v.items.set (v.child s).toNat (setV p y x).1), 0) else (JV.zero, (setV p y x).2) := by
  rw [setV, if_neg (fun q => q.2 ⟨hk, hi⟩), if_neg (fun q => hn q.2), if_neg h, hy]
  simp only [JV.put, if_neg (show ¬ v.kind = 6 by omega)]
theorem snoc_map {α : Type} (f : α → AV) (l : List α) (m : Nat) (a : α) : ((l.map f).take m ++ [f a]) = (l.take m ++ [a]).map f := by simp
theorem take_all {α : Type} (l : List α) (n : Nat) (h : l.length = n) : l.take n = l := by subst h; exact List.take_length
theorem snoc_len {α : Type} (l : List α) (m : Nat) (a : α) (h : m ≤ l.length) : (l.take m ++ [a]).length = m + 1 := by simp; omega
theorem map_set' {α : Type} (f : α → AV) (l : List α) (i : Nat) (a : α) : (l.map f).set i (f a) = (l.set i a).map f := by simp
theorem take_set' {α : Type} (l : List α) (m i : Nat) (a : α) : (l.set i a).take m = (l.take m).set i a := by simp [List.take_set]
theorem setA_of (h : JH) (l : List JV) (n : Int) (a b : AV) (ha : Le a (.sl 1 (h.names.map AV.str) [])) (hb : Le b (.sl 5 (l.map encV) [])) :
    Le (.tup [.agg [.val (.int .i64 h.kind), .val (.int .i64 h.int), .str h.text, a, b], .val (.int .i64 n)]) (setA (.mk h l, n)) :=
  setA_le (by rw [encV_mk]; exact .agg (.cons (.refl _) (.cons (.refl _) (.cons (.refl _) (.cons ha (.cons hb .nil)))))) rfl
theorem le_if {a b c : AV} {P : Prop} [Decidable P] (hp : P) (h : Le a c) : Le (if P then a else b) c := by rw [if_pos hp]; exact h
theorem le_snoc {α : Type} (f : α → AV) (n m k : Nat) (l : List α) (a : α) (hm : m ≤ l.length) :
    Le (if m - 0 ≤ ((l.map f).take (m - 0)).length then .sl n (((l.map f).take (m - 0) ++ [f a]).take (m - 0 + 1)) [] else .gs k 0 (m - 0 + 1)) (.sl n ((l.take m ++ [a]).map f) []) := by
  rw [Nat.sub_zero, snoc_map]
  have := snoc_len l m a hm
  rw [if_pos (by rw [List.length_take, List.length_map]; omega), take_all _ _ (by rw [List.length_map, this])]
  exact .refl _
theorem le_snocAll {α : Type} (f : α → AV) (n : Nat) (l : List α) (a : α) :
    Le (.sl n ((l.map f ++ [f a]).take (l.length + 1)) []) (.sl n ((l ++ [a]).map f) []) := by
  have e : l.map f ++ [f a] = (l ++ [a]).map f := by simp
  rw [e, take_all _ _ (by simp)]
  exact .refl _
theorem le_put {α : Type} (f : α → AV) (n m k i : Nat) (l : List α) (a : α) (hm : m ≤ l.length) :
    Le (if m ≤ ((l.map f).set i (f a)).length then .sl n (((l.map f).set i (f a)).take m) [] else .gs k 0 m) (.sl n (((l.take m).set i a).map f) []) := by
  rw [if_pos (by simpa using hm), map_set', ← List.map_take, take_set']
  exact .refl _
theorem le_take {α : Type} (f : α → AV) (n m : Nat) (l : List α) : Le (.sl n ((l.map f).take m) []) (.sl n ((l.take m).map f) []) := by rw [List.map_take]; exact .refl _
theorem setA_zero {n : Int} : Le (.tup [(.agg [.val (.int .i64 0), .val (.int .i64 0), .str [], .val (.slice none 0 0), .val (.slice none 0 0)]), .val (.int .i64 n)]) (setA (JV.zero, n)) :=
  setA_le le_zero rfl


theorem set23_nil (W : World) (v x : JV) : Pure Tryd.prog W 23 [encV v, .sl 1 [] [], encV x] (setA (setV [] v x)) := by
  refine pure_of_run Tryd.func23 rfl (by rw [Tryd.ntmps23]; simp) ?_
  rw [Tryd.ntmps23, st0_den]
  refine run_seq ?_
  refine run_regS [1, 3, 5, 6] (by decide) (fun F hF => ?_)
  simp only [go_sem, reduceIte, reduceCtorEq, Nat.reduceLT, Nat.reduceLeDiff, Nat.reduceEqDiff, Nat.reduceAdd, Nat.reduceSub, Nat.reduceMul, Int.reduceEq, Int.reduceLT, Int.reduceLE, Int.reduceToNat]
  refine hF _ ?_; clear hF F
  simp only [go_sem, reduceIte, reduceCtorEq, Nat.reduceLT, Nat.reduceLeDiff, Nat.reduceEqDiff, Nat.reduceAdd, Nat.reduceSub, Nat.reduceMul, Int.reduceEq, Int.reduceLT, Int.reduceLE, Int.reduceToNat]
  refine run_seq ?_
  refine run_seq ?_
  refine run_regS [1, 3, 5, 6, 18] (by decide) (fun F hF => ?_)
  simp only [go_sem, reduceIte, reduceCtorEq, Nat.reduceLT, Nat.reduceLeDiff, Nat.reduceEqDiff, Nat.reduceAdd, Nat.reduceSub, Nat.reduceMul, Int.reduceEq, Int.reduceLT, Int.reduceLE, Int.reduceToNat]
  refine hF _ ?_; clear hF F
  simp only [go_sem, reduceIte, reduceCtorEq, Nat.reduceLT, Nat.reduceLeDiff, Nat.reduceEqDiff, Nat.reduceAdd, Nat.reduceSub, Nat.reduceMul, Int.reduceEq, Int.reduceLT, Int.reduceLE, Int.reduceToNat]
  refine run_condA (by simp only [evL, evC, tg, reduceIte, Nat.reduceEqDiff]; rfl) (fun h18 => ?_) (fun h18 => ?_)
  · try simp only [decide_eq_true_eq, decide_eq_false_iff_not, Bool.not_eq_true', Bool.not_eq_false'] at h18
    refine run_seq ?_
    refine run_regS [6, 7] (by decide) (fun F hF => ?_)
    simp only [go_sem, reduceIte, reduceCtorEq, Nat.reduceLT, Nat.reduceLeDiff, Nat.reduceEqDiff, Nat.reduceAdd, Nat.reduceSub, Nat.reduceMul, Int.reduceEq, Int.reduceLT, Int.reduceLE, Int.reduceToNat]
    refine hF _ ?_; clear hF F
    simp only [go_sem, reduceIte, reduceCtorEq, Nat.reduceLT, Nat.reduceLeDiff, Nat.reduceEqDiff, Nat.reduceAdd, Nat.reduceSub, Nat.reduceMul, Int.reduceEq, Int.reduceLT, Int.reduceLE, Int.reduceToNat]
    refine run_ret ?_
    refine fin_ofF (.inr rfl) [] (show resVL _ _ [.cell 6 25, .tmp 7] = some _ from by simp only [go_sem, reduceIte, reduceCtorEq, Nat.reduceLT, Nat.reduceLeDiff, Nat.reduceEqDiff, Nat.reduceAdd, Nat.reduceSub, Nat.reduceMul, Int.reduceEq, Int.reduceLT, Int.reduceLE, Int.reduceToNat, resVL, resV1, AS.den, ldT_ty]; rfl) ?_ (by first | rfl | exact setA_clo _ | simp only [AV.clo, cloL, encV_clo, Bool.and_true, iA, bA])
    try simp only [go_sem, reduceIte, reduceCtorEq, Nat.reduceLT, Nat.reduceLeDiff, Nat.reduceEqDiff, Nat.reduceAdd, Nat.reduceSub, Nat.reduceMul, Int.reduceEq, Int.reduceLT, Int.reduceLE, Int.reduceToNat, AS.den, resV_one, resV_two, resV_three, clA_nil]
    exact .refl _
  · try simp only [decide_eq_true_eq, decide_eq_false_iff_not, Bool.not_eq_true', Bool.not_eq_false'] at h18
    exact absurd rfl h18

theorem set23_obj (W : World) (v : JV) (s : List UInt8) (p : List (List UInt8)) (x : JV) (hc : cntV v ≤ 2 ^ 30) (hp : p.length < 2 ^ 62) (hk : v.kind = 6) (ih : ∀ u, cntV u ≤ 2 ^ 30 → Pure Tryd.prog W 23 [encV u, .sl 1 (p.map AV.str) [], encV x] (setA (setV p u x))) : Pure Tryd.prog W 23 [encV v, .sl 1 ((s :: p).map AV.str) [], encV x] (setA (setV (s :: p) v x)) := by
  have hcm := child_mem (v := v) (s := s) hk
  have h6 : (6 : Int) = 5 ↔ False := by decide
  have hln := cntV_len v
  have hmn := v.mem_names
  have hmi := v.mem_items
  refine pure_of_run Tryd.func23 rfl (by rw [Tryd.ntmps23]; simp) ?_
  rw [Tryd.ntmps23, st0_den]
  refine run_seq ?_
  refine run_regS [1, 3, 5, 6] (by decide) (fun F hF => ?_)
  simp only [go_sem, reduceIte, reduceCtorEq, Nat.reduceLT, Nat.reduceLeDiff, Nat.reduceEqDiff, Nat.reduceAdd, Nat.reduceSub, Nat.reduceMul, Int.reduceEq, Int.reduceLT, Int.reduceLE, Int.reduceToNat, hk, h6]
  refine hF _ ?_; clear hF F
  simp only [go_sem, reduceIte, reduceCtorEq, Nat.reduceLT, Nat.reduceLeDiff, Nat.reduceEqDiff, Nat.reduceAdd, Nat.reduceSub, Nat.reduceMul, Int.reduceEq, Int.reduceLT, Int.reduceLE, Int.reduceToNat, hk, h6]
  refine run_seq ?_
  refine run_seq ?_
  refine run_regS [1, 3, 5, 6, 18] (by decide) (fun F hF => ?_)
  simp only [go_sem, reduceIte, reduceCtorEq, Nat.reduceLT, Nat.reduceLeDiff, Nat.reduceEqDiff, Nat.reduceAdd, Nat.reduceSub, Nat.reduceMul, Int.reduceEq, Int.reduceLT, Int.reduceLE, Int.reduceToNat, hk, h6]
  refine hF _ ?_; clear hF F
  simp only [go_sem, reduceIte, reduceCtorEq, Nat.reduceLT, Nat.reduceLeDiff, Nat.reduceEqDiff, Nat.reduceAdd, Nat.reduceSub, Nat.reduceMul, Int.reduceEq, Int.reduceLT, Int.reduceLE, Int.reduceToNat, hk, h6]
  refine run_condA (by simp only [evL, evC, tg, reduceIte, Nat.reduceEqDiff]; rfl) (fun h18 => ?_) (fun h18 => ?_)
  · try simp only [decide_eq_true_eq, decide_eq_false_iff_not, Bool.not_eq_true', Bool.not_eq_false'] at h18
    exfalso; omega
  · try simp only [decide_eq_true_eq, decide_eq_false_iff_not, Bool.not_eq_true', Bool.not_eq_false'] at h18
    refine run_skip ?_
    refine run_seq ?_
    refine run_regS [1, 3, 5, 6, 8, 9] (by decide) (fun F hF => ?_)
    simp only [go_sem, reduceIte, reduceCtorEq, Nat.reduceLT, Nat.reduceLeDiff, Nat.reduceEqDiff, Nat.reduceAdd, Nat.reduceSub, Nat.reduceMul, Int.reduceEq, Int.reduceLT, Int.reduceLE, Int.reduceToNat, hk, h6, idxA, le_add0, take_map_len, drop_map_len, ge0_len1, one_le_len1, Int.toNat_natCast, Int.reduceToNat, Int.toNat_one, Int.toNat_zero, Int.le_refl, Int.natCast_nonneg, List.drop_zero]
    refine aCall_pure0 (index44 W s) call44 (.cons (.refl _) .nil) (by first | rfl | simp only [cloL, encV_clo, AV.clo, Bool.and_true, iA, bA, lsA_clo]) ?_
    try simp only [go_sem, reduceIte, reduceCtorEq, Nat.reduceLT, Nat.reduceLeDiff, Nat.reduceEqDiff, Nat.reduceAdd, Nat.reduceSub, Nat.reduceMul, Int.reduceEq, Int.reduceLT, Int.reduceLE, Int.reduceToNat, hk, h6, idxA, le_add0, take_map_len, drop_map_len, ge0_len1, one_le_len1, Int.toNat_natCast, Int.reduceToNat, Int.toNat_one, Int.toNat_zero, Int.le_refl, Int.natCast_nonneg, List.drop_zero]
    refine hF _ ?_; clear hF F
    simp only [go_sem, reduceIte, reduceCtorEq, Nat.reduceLT, Nat.reduceLeDiff, Nat.reduceEqDiff, Nat.reduceAdd, Nat.reduceSub, Nat.reduceMul, Int.reduceEq, Int.reduceLT, Int.reduceLE, Int.reduceToNat, hk, h6, idxA, le_add0, take_map_len, drop_map_len, ge0_len1, one_le_len1, Int.toNat_natCast, Int.reduceToNat, Int.toNat_one, Int.toNat_zero, Int.le_refl, Int.natCast_nonneg, List.drop_zero]
    refine run_seq ?_
    refine run_block ?_
    refine run_seq ?_
    refine run_regS [1, 3, 5, 6, 8, 9, 27] (by decide) (fun F hF => ?_)
    simp only [go_sem, reduceIte, reduceCtorEq, Nat.reduceLT, Nat.reduceLeDiff, Nat.reduceEqDiff, Nat.reduceAdd, Nat.reduceSub, Nat.reduceMul, Int.reduceEq, Int.reduceLT, Int.reduceLE, Int.reduceToNat, hk, h6]
    refine hF _ ?_; clear hF F
    simp only [go_sem, reduceIte, reduceCtorEq, Nat.reduceLT, Nat.reduceLeDiff, Nat.reduceEqDiff, Nat.reduceAdd, Nat.reduceSub, Nat.reduceMul, Int.reduceEq, Int.reduceLT, Int.reduceLE, Int.reduceToNat, hk, h6]
    refine run_condA (by simp only [evL, evC, tg, reduceIte, Nat.reduceEqDiff]; rfl) (fun h27 => ?_) (fun h27 => ?_)
    · try simp only [decide_eq_true_eq, decide_eq_false_iff_not, Bool.not_eq_true', Bool.not_eq_false'] at h27
      refine run_skip ?_
      refine run_blk ?_
      refine run_seq ?_
      refine run_regD [1, 3, 5, 6, 10] (by decide) mixed0 (by decide) (fun F hF => ?_)
      simp only [go_sem, reduceIte, reduceCtorEq, Nat.reduceLT, Nat.reduceLeDiff, Nat.reduceEqDiff, Nat.reduceAdd, Nat.reduceSub, Nat.reduceMul, Int.reduceEq, Int.reduceLT, Int.reduceLE, Int.reduceToNat, hk, h6, le_add0, take_map_len, drop_map_len, ge0_len1, one_le_len1, Int.toNat_natCast, Int.reduceToNat, Int.toNat_one, Int.toNat_zero, Int.le_refl, Int.natCast_nonneg, List.drop_zero]
      refine aCall_flat0 (child46 W v s (okV_names (okV_cnt v hc))) call46 (.cons (.refl _) (.cons (.refl _) .nil)) (by first | rfl | simp only [cloL, encV_clo, AV.clo, Bool.and_true, iA, bA, lsA_clo]) (by rfl) ?_
      try simp only [go_sem, reduceIte, reduceCtorEq, Nat.reduceLT, Nat.reduceLeDiff, Nat.reduceEqDiff, Nat.reduceAdd, Nat.reduceSub, Nat.reduceMul, Int.reduceEq, Int.reduceLT, Int.reduceLE, Int.reduceToNat, hk, h6, le_add0, take_map_len, drop_map_len, ge0_len1, one_le_len1, Int.toNat_natCast, Int.reduceToNat, Int.toNat_one, Int.toNat_zero, Int.le_refl, Int.natCast_nonneg, List.drop_zero]
      refine ⟨by decide, ?_⟩
      refine hF _ ?_; clear hF F
      simp only [go_sem, reduceIte, reduceCtorEq, Nat.reduceLT, Nat.reduceLeDiff, Nat.reduceEqDiff, Nat.reduceAdd, Nat.reduceSub, Nat.reduceMul, Int.reduceEq, Int.reduceLT, Int.reduceLE, Int.reduceToNat, hk, h6, le_add0, take_map_len, drop_map_len, ge0_len1, one_le_len1, Int.toNat_natCast, Int.reduceToNat, Int.toNat_one, Int.toNat_zero, Int.le_refl, Int.natCast_nonneg, List.drop_zero]
      refine run_seq ?_
      refine run_seq ?_
      refine run_regS [1, 3, 5, 6, 10, 53] (by decide) (fun F hF => ?_)
      simp only [go_sem, reduceIte, reduceCtorEq, Nat.reduceLT, Nat.reduceLeDiff, Nat.reduceEqDiff, Nat.reduceAdd, Nat.reduceSub, Nat.reduceMul, Int.reduceEq, Int.reduceLT, Int.reduceLE, Int.reduceToNat, hk, h6]
      refine hF _ ?_; clear hF F
      simp only [go_sem, reduceIte, reduceCtorEq, Nat.reduceLT, Nat.reduceLeDiff, Nat.reduceEqDiff, Nat.reduceAdd, Nat.reduceSub, Nat.reduceMul, Int.reduceEq, Int.reduceLT, Int.reduceLE, Int.reduceToNat, hk, h6]
      refine run_condA (by simp only [evL, evC, tg, reduceIte, Nat.reduceEqDiff]; rfl) (fun h53 => ?_) (fun h53 => ?_)
      · try simp only [decide_eq_true_eq, decide_eq_false_iff_not, Bool.not_eq_true', Bool.not_eq_false'] at h53
        refine run_seq ?_
        refine run_regS [1, 3, 5, 6, 11] (by decide) (fun F hF => ?_)
        simp only [go_sem, reduceIte, reduceCtorEq, Nat.reduceLT, Nat.reduceLeDiff, Nat.reduceEqDiff, Nat.reduceAdd, Nat.reduceSub, Nat.reduceMul, Int.reduceEq, Int.reduceLT, Int.reduceLE, Int.reduceToNat, hk, h6]
        refine aCall_retH0 [(13, 55), (25, 56)] (copied49_obj W v hc hk) call49 (.cons (.refl _) .nil) (by first | rfl | simp only [cloL, encV_clo, AV.clo, Bool.and_true, iA, bA, lsA_clo]) (by rfl) (by rfl) (by rfl) ?_
        try simp only [go_sem, reduceIte, reduceCtorEq, Nat.reduceLT, Nat.reduceLeDiff, Nat.reduceEqDiff, Nat.reduceAdd, Nat.reduceSub, Nat.reduceMul, Int.reduceEq, Int.reduceLT, Int.reduceLE, Int.reduceToNat, hk, h6]
        refine hF _ ?_; clear hF F
        simp only [go_sem, reduceIte, reduceCtorEq, Nat.reduceLT, Nat.reduceLeDiff, Nat.reduceEqDiff, Nat.reduceAdd, Nat.reduceSub, Nat.reduceMul, Int.reduceEq, Int.reduceLT, Int.reduceLE, Int.reduceToNat, hk, h6]
        refine run_seq ?_
        refine run_seq ?_
        refine run_regS [1, 3, 5, 6, 11, 58] (by decide) (fun F hF => ?_)
        simp only [go_sem, reduceIte, reduceCtorEq, Nat.reduceLT, Nat.reduceLeDiff, Nat.reduceEqDiff, Nat.reduceAdd, Nat.reduceSub, Nat.reduceMul, Int.reduceEq, Int.reduceLT, Int.reduceLE, Int.reduceToNat, hk, h6]
        refine hF _ ?_; clear hF F
        simp only [go_sem, reduceIte, reduceCtorEq, Nat.reduceLT, Nat.reduceLeDiff, Nat.reduceEqDiff, Nat.reduceAdd, Nat.reduceSub, Nat.reduceMul, Int.reduceEq, Int.reduceLT, Int.reduceLE, Int.reduceToNat, hk, h6]
        refine run_condA (by simp only [evL, evC, tg, reduceIte, Nat.reduceEqDiff]; rfl) (fun h58 => ?_) (fun h58 => ?_)
        · try simp only [decide_eq_true_eq, decide_eq_false_iff_not, Bool.not_eq_true', Bool.not_eq_false'] at h58
          refine run_seq ?_
          refine run_regS [1, 5, 6, 11, 12] (by decide) (fun F hF => ?_)
          simp only [go_sem, reduceIte, reduceCtorEq, Nat.reduceLT, Nat.reduceLeDiff, Nat.reduceEqDiff, Nat.reduceAdd, Nat.reduceSub, Nat.reduceMul, Int.reduceEq, Int.reduceLT, Int.reduceLE, Int.reduceToNat, hk, h6]
          refine aCall_flat0 (members50 W v) call50 (.cons (.refl _) .nil) (by first | rfl | simp only [cloL, encV_clo, AV.clo, Bool.and_true, iA, bA, lsA_clo]) (by rfl) ?_
          try simp only [go_sem, reduceIte, reduceCtorEq, Nat.reduceLT, Nat.reduceLeDiff, Nat.reduceEqDiff, Nat.reduceAdd, Nat.reduceSub, Nat.reduceMul, Int.reduceEq, Int.reduceLT, Int.reduceLE, Int.reduceToNat, hk, h6]
          refine hF _ ?_; clear hF F
          simp only [go_sem, reduceIte, reduceCtorEq, Nat.reduceLT, Nat.reduceLeDiff, Nat.reduceEqDiff, Nat.reduceAdd, Nat.reduceSub, Nat.reduceMul, Int.reduceEq, Int.reduceLT, Int.reduceLE, Int.reduceToNat, hk, h6]
          refine run_regD [1, 5, 6, 11] (by decide) mixed0 (by decide) (fun F hF => ?_)
          simp only [go_sem, reduceIte, reduceCtorEq, Nat.reduceLT, Nat.reduceLeDiff, Nat.reduceEqDiff, Nat.reduceAdd, Nat.reduceSub, Nat.reduceMul, Int.reduceEq, Int.reduceLT, Int.reduceLE, Int.reduceToNat, hk, h6, le_add0, take_map_len, drop_map_len, ge0_len1, one_le_len1, Int.toNat_natCast, Int.reduceToNat, Int.toNat_one, Int.toNat_zero, Int.le_refl, Int.natCast_nonneg, List.drop_zero]
          repeat (first | (apply And.intro; · omega) | simp only [go_sem, reduceIte, reduceCtorEq, Nat.reduceLT, Nat.reduceLeDiff, Nat.reduceEqDiff, Nat.reduceAdd, Nat.reduceSub, Nat.reduceMul, Int.reduceEq, Int.reduceLT, Int.reduceLE, Int.reduceToNat, hk, h6, le_add0, take_map_len, drop_map_len, ge0_len1, one_le_len1, Int.toNat_natCast, Int.reduceToNat, Int.toNat_one, Int.toNat_zero, Int.le_refl, Int.natCast_nonneg, List.drop_zero])
          refine ⟨by decide, ?_⟩
          refine hF _ ?_; clear hF F
          simp only [go_sem, reduceIte, reduceCtorEq, Nat.reduceLT, Nat.reduceLeDiff, Nat.reduceEqDiff, Nat.reduceAdd, Nat.reduceSub, Nat.reduceMul, Int.reduceEq, Int.reduceLT, Int.reduceLE, Int.reduceToNat, hk, h6, le_add0, take_map_len, drop_map_len, ge0_len1, one_le_len1, Int.toNat_natCast, Int.reduceToNat, Int.toNat_one, Int.toNat_zero, Int.le_refl, Int.natCast_nonneg, List.drop_zero]
          refine run_seq ?_
          refine run_regD [6, 11] (by decide) mixed0 (by decide) (fun F hF => ?_)
          simp only [go_sem, reduceIte, reduceCtorEq, Nat.reduceLT, Nat.reduceLeDiff, Nat.reduceEqDiff, Nat.reduceAdd, Nat.reduceSub, Nat.reduceMul, Int.reduceEq, Int.reduceLT, Int.reduceLE, Int.reduceToNat, hk, h6, le_add0, take_map_len, drop_map_len, ge0_len1, one_le_len1, Int.toNat_natCast, Int.reduceToNat, Int.toNat_one, Int.toNat_zero, Int.le_refl, Int.natCast_nonneg, List.drop_zero]
          repeat (first | (apply And.intro; · omega) | simp only [go_sem, reduceIte, reduceCtorEq, Nat.reduceLT, Nat.reduceLeDiff, Nat.reduceEqDiff, Nat.reduceAdd, Nat.reduceSub, Nat.reduceMul, Int.reduceEq, Int.reduceLT, Int.reduceLE, Int.reduceToNat, hk, h6, le_add0, take_map_len, drop_map_len, ge0_len1, one_le_len1, Int.toNat_natCast, Int.reduceToNat, Int.toNat_one, Int.toNat_zero, Int.le_refl, Int.natCast_nonneg, List.drop_zero])
          refine aCall_pure0 (fresh51 W p x hp) call51 (.cons (.refl _) (.cons (.refl _) .nil)) (by first | rfl | simp only [cloL, encV_clo, AV.clo, Bool.and_true, iA, bA, lsA_clo]) ?_
          try simp only [go_sem, reduceIte, reduceCtorEq, Nat.reduceLT, Nat.reduceLeDiff, Nat.reduceEqDiff, Nat.reduceAdd, Nat.reduceSub, Nat.reduceMul, Int.reduceEq, Int.reduceLT, Int.reduceLE, Int.reduceToNat, hk, h6, le_add0, take_map_len, drop_map_len, ge0_len1, one_le_len1, Int.toNat_natCast, Int.reduceToNat, Int.toNat_one, Int.toNat_zero, Int.le_refl, Int.natCast_nonneg, List.drop_zero]
          repeat (first | (apply And.intro; · omega) | simp only [go_sem, reduceIte, reduceCtorEq, Nat.reduceLT, Nat.reduceLeDiff, Nat.reduceEqDiff, Nat.reduceAdd, Nat.reduceSub, Nat.reduceMul, Int.reduceEq, Int.reduceLT, Int.reduceLE, Int.reduceToNat, hk, h6, le_add0, take_map_len, drop_map_len, ge0_len1, one_le_len1, Int.toNat_natCast, Int.reduceToNat, Int.toNat_one, Int.toNat_zero, Int.le_refl, Int.natCast_nonneg, List.drop_zero])
          refine ⟨by decide, ?_⟩
          refine hF _ ?_; clear hF F
          simp only [go_sem, reduceIte, reduceCtorEq, Nat.reduceLT, Nat.reduceLeDiff, Nat.reduceEqDiff, Nat.reduceAdd, Nat.reduceSub, Nat.reduceMul, Int.reduceEq, Int.reduceLT, Int.reduceLE, Int.reduceToNat, hk, h6, le_add0, take_map_len, drop_map_len, ge0_len1, one_le_len1, Int.toNat_natCast, Int.reduceToNat, Int.toNat_one, Int.toNat_zero, Int.le_refl, Int.natCast_nonneg, List.drop_zero]
          refine run_seq ?_
          refine run_regS [6, 7] (by decide) (fun F hF => ?_)
          simp only [go_sem, reduceIte, reduceCtorEq, Nat.reduceLT, Nat.reduceLeDiff, Nat.reduceEqDiff, Nat.reduceAdd, Nat.reduceSub, Nat.reduceMul, Int.reduceEq, Int.reduceLT, Int.reduceLE, Int.reduceToNat, hk, h6]
          refine hF _ ?_; clear hF F
          simp only [go_sem, reduceIte, reduceCtorEq, Nat.reduceLT, Nat.reduceLeDiff, Nat.reduceEqDiff, Nat.reduceAdd, Nat.reduceSub, Nat.reduceMul, Int.reduceEq, Int.reduceLT, Int.reduceLE, Int.reduceToNat, hk, h6]
          refine run_ret ?_
          refine fin_ofF (.inr rfl) [55, 56, 69, 83, 103, 104] (show resVL _ _ [.cell 6 25, .tmp 7] = some _ from by simp only [go_sem, reduceIte, reduceCtorEq, Nat.reduceLT, Nat.reduceLeDiff, Nat.reduceEqDiff, Nat.reduceAdd, Nat.reduceSub, Nat.reduceMul, Int.reduceEq, Int.reduceLT, Int.reduceLE, Int.reduceToNat, resVL, resV1, AS.den, ldT_ty]; rfl) ?_ (by first | rfl | exact setA_clo _ | simp only [AV.clo, cloL, encV_clo, Bool.and_true, iA, bA])
          try simp only [go_sem, reduceIte, reduceCtorEq, Nat.reduceLT, Nat.reduceLeDiff, Nat.reduceEqDiff, Nat.reduceAdd, Nat.reduceSub, Nat.reduceMul, Int.reduceEq, Int.reduceLT, Int.reduceLE, Int.reduceToNat, AS.den, resV_one, resV_two, resV_three, clA_nil]
          rw [setV_grow_obj hk h53]
          exact setA_of ⟨6, 0, [], v.names.take v.mem ++ [s]⟩ _ _ _ _ (le_snoc _ _ _ _ _ _ hmn) (le_snoc _ _ _ _ _ _ hmi)
        · try simp only [decide_eq_true_eq, decide_eq_false_iff_not, Bool.not_eq_true', Bool.not_eq_false'] at h58
          first | exact absurd trivial h58 | exact h58.elim | exact absurd h58 (by decide) | exact absurd rfl h58
      · try simp only [decide_eq_true_eq, decide_eq_false_iff_not, Bool.not_eq_true', Bool.not_eq_false'] at h53
        obtain ⟨y, hy⟩ := child_get (j := v) (s := s) (by omega)
        have h0 : (0 ≤ v.child s) = True := by simp only [eq_iff_iff, iff_true]; omega
        have hlt := child_lt v s
        refine run_skip ?_
        refine run_seq ?_
        refine run_regD [3, 6, 10, 13, 14] (by decide) mixed0 (by decide) (fun F hF => ?_)
        simp only [go_sem, reduceIte, reduceCtorEq, Nat.reduceLT, Nat.reduceLeDiff, Nat.reduceEqDiff, Nat.reduceAdd, Nat.reduceSub, Nat.reduceMul, Int.reduceEq, Int.reduceLT, Int.reduceLE, Int.reduceToNat, hk, h6, setA, h0, hy, List.getElem?_map, Option.map_some, le_add0, take_map_len, drop_map_len, ge0_len1, one_le_len1, Int.toNat_natCast, Int.reduceToNat, Int.toNat_one, Int.toNat_zero, Int.le_refl, Int.natCast_nonneg, List.drop_zero]
        repeat (first | (apply And.intro; · omega) | simp only [go_sem, reduceIte, reduceCtorEq, Nat.reduceLT, Nat.reduceLeDiff, Nat.reduceEqDiff, Nat.reduceAdd, Nat.reduceSub, Nat.reduceMul, Int.reduceEq, Int.reduceLT, Int.reduceLE, Int.reduceToNat, hk, h6, setA, h0, hy, List.getElem?_map, Option.map_some, le_add0, take_map_len, drop_map_len, ge0_len1, one_le_len1, Int.toNat_natCast, Int.reduceToNat, Int.toNat_one, Int.toNat_zero, Int.le_refl, Int.natCast_nonneg, List.drop_zero])
        refine aCall_pure0 (ih y (by have := cntV_item hy; omega)) call23 (.cons (.refl _) (.cons (.refl _) (.cons (.refl _) .nil))) (by first | rfl | simp only [cloL, encV_clo, AV.clo, Bool.and_true, iA, bA, lsA_clo]) ?_
        try simp only [go_sem, reduceIte, reduceCtorEq, Nat.reduceLT, Nat.reduceLeDiff, Nat.reduceEqDiff, Nat.reduceAdd, Nat.reduceSub, Nat.reduceMul, Int.reduceEq, Int.reduceLT, Int.reduceLE, Int.reduceToNat, hk, h6, setA, h0, hy, List.getElem?_map, Option.map_some, le_add0, take_map_len, drop_map_len, ge0_len1, one_le_len1, Int.toNat_natCast, Int.reduceToNat, Int.toNat_one, Int.toNat_zero, Int.le_refl, Int.natCast_nonneg, List.drop_zero]
        repeat (first | (apply And.intro; · omega) | simp only [go_sem, reduceIte, reduceCtorEq, Nat.reduceLT, Nat.reduceLeDiff, Nat.reduceEqDiff, Nat.reduceAdd, Nat.reduceSub, Nat.reduceMul, Int.reduceEq, Int.reduceLT, Int.reduceLE, Int.reduceToNat, hk, h6, setA, h0, hy, List.getElem?_map, Option.map_some, le_add0, take_map_len, drop_map_len, ge0_len1, one_le_len1, Int.toNat_natCast, Int.reduceToNat, Int.toNat_one, Int.toNat_zero, Int.le_refl, Int.natCast_nonneg, List.drop_zero])
        refine ⟨by decide, ?_⟩
        refine hF _ ?_; clear hF F
        simp only [go_sem, reduceIte, reduceCtorEq, Nat.reduceLT, Nat.reduceLeDiff, Nat.reduceEqDiff, Nat.reduceAdd, Nat.reduceSub, Nat.reduceMul, Int.reduceEq, Int.reduceLT, Int.reduceLE, Int.reduceToNat, hk, h6, setA, h0, hy, List.getElem?_map, Option.map_some, le_add0, take_map_len, drop_map_len, ge0_len1, one_le_len1, Int.toNat_natCast, Int.reduceToNat, Int.toNat_one, Int.toNat_zero, Int.le_refl, Int.natCast_nonneg, List.drop_zero]
        refine run_seq ?_
        refine run_seq ?_
        refine run_regS [3, 6, 10, 13, 14, 99] (by decide) (fun F hF => ?_)
        simp only [go_sem, reduceIte, reduceCtorEq, Nat.reduceLT, Nat.reduceLeDiff, Nat.reduceEqDiff, Nat.reduceAdd, Nat.reduceSub, Nat.reduceMul, Int.reduceEq, Int.reduceLT, Int.reduceLE, Int.reduceToNat, hk, h6]
        refine hF _ ?_; clear hF F
        simp only [go_sem, reduceIte, reduceCtorEq, Nat.reduceLT, Nat.reduceLeDiff, Nat.reduceEqDiff, Nat.reduceAdd, Nat.reduceSub, Nat.reduceMul, Int.reduceEq, Int.reduceLT, Int.reduceLE, Int.reduceToNat, hk, h6]
        refine run_condA (by simp only [evL, evC, tg, reduceIte, Nat.reduceEqDiff]; rfl) (fun h99 => ?_) (fun h99 => ?_)
        · try simp only [decide_eq_true_eq, decide_eq_false_iff_not, Bool.not_eq_true', Bool.not_eq_false'] at h99
          refine run_seq ?_
          refine run_regS [6, 7] (by decide) (fun F hF => ?_)
          simp only [go_sem, reduceIte, reduceCtorEq, Nat.reduceLT, Nat.reduceLeDiff, Nat.reduceEqDiff, Nat.reduceAdd, Nat.reduceSub, Nat.reduceMul, Int.reduceEq, Int.reduceLT, Int.reduceLE, Int.reduceToNat, hk, h6]
          refine hF _ ?_; clear hF F
          simp only [go_sem, reduceIte, reduceCtorEq, Nat.reduceLT, Nat.reduceLeDiff, Nat.reduceEqDiff, Nat.reduceAdd, Nat.reduceSub, Nat.reduceMul, Int.reduceEq, Int.reduceLT, Int.reduceLE, Int.reduceToNat, hk, h6]
          refine run_ret ?_
          refine fin_ofF (.inr rfl) [55, 56, 69, 83, 103, 104] (show resVL _ _ [.cell 6 25, .tmp 7] = some _ from by simp only [go_sem, reduceIte, reduceCtorEq, Nat.reduceLT, Nat.reduceLeDiff, Nat.reduceEqDiff, Nat.reduceAdd, Nat.reduceSub, Nat.reduceMul, Int.reduceEq, Int.reduceLT, Int.reduceLE, Int.reduceToNat, resVL, resV1, AS.den, ldT_ty]; rfl) ?_ (by first | rfl | exact setA_clo _ | simp only [AV.clo, cloL, encV_clo, Bool.and_true, iA, bA])
          try simp only [go_sem, reduceIte, reduceCtorEq, Nat.reduceLT, Nat.reduceLeDiff, Nat.reduceEqDiff, Nat.reduceAdd, Nat.reduceSub, Nat.reduceMul, Int.reduceEq, Int.reduceLT, Int.reduceLE, Int.reduceToNat, AS.den, resV_one, resV_two, resV_three, clA_nil]
          show Le _ (setA (setV (s :: p) v x))
          rw [setV_down_obj hk h53 hy, if_neg h99]; exact setA_zero
        · try simp only [decide_eq_true_eq, decide_eq_false_iff_not, Bool.not_eq_true', Bool.not_eq_false'] at h99
          have hset : (v.items.map encV)[(v.child s).toNat]? = some (encV y) := by rw [List.getElem?_map, hy]; rfl
          refine run_skip ?_
          refine run_seq ?_
          refine run_regS [6, 10, 13, 15] (by decide) (fun F hF => ?_)
          simp only [go_sem, reduceIte, reduceCtorEq, Nat.reduceLT, Nat.reduceLeDiff, Nat.reduceEqDiff, Nat.reduceAdd, Nat.reduceSub, Nat.reduceMul, Int.reduceEq, Int.reduceLT, Int.reduceLE, Int.reduceToNat, hk, h6]
          refine aCall_retH0 [(13, 103), (25, 104)] (copied49_obj W v hc hk) call49 (.cons (.refl _) .nil) (by first | rfl | simp only [cloL, encV_clo, AV.clo, Bool.and_true, iA, bA, lsA_clo]) (by rfl) (by rfl) (by rfl) ?_
          try simp only [go_sem, reduceIte, reduceCtorEq, Nat.reduceLT, Nat.reduceLeDiff, Nat.reduceEqDiff, Nat.reduceAdd, Nat.reduceSub, Nat.reduceMul, Int.reduceEq, Int.reduceLT, Int.reduceLE, Int.reduceToNat, hk, h6]
          refine hF _ ?_; clear hF F
          simp only [go_sem, reduceIte, reduceCtorEq, Nat.reduceLT, Nat.reduceLeDiff, Nat.reduceEqDiff, Nat.reduceAdd, Nat.reduceSub, Nat.reduceMul, Int.reduceEq, Int.reduceLT, Int.reduceLE, Int.reduceToNat, hk, h6]
          refine run_seq ?_
          refine run_regS [6, 15] (by decide) (fun F hF => ?_)
          simp only [go_sem, reduceIte, reduceCtorEq, Nat.reduceLT, Nat.reduceLeDiff, Nat.reduceEqDiff, Nat.reduceAdd, Nat.reduceSub, Nat.reduceMul, Int.reduceEq, Int.reduceLT, Int.reduceLE, Int.reduceToNat, hk, h6, h0, hset, Nat.zero_add, le_add0, take_map_len, drop_map_len, ge0_len1, one_le_len1, Int.toNat_natCast, Int.reduceToNat, Int.toNat_one, Int.toNat_zero, Int.le_refl, Int.natCast_nonneg, List.drop_zero]
          repeat (first | (apply And.intro; · omega) | simp only [go_sem, reduceIte, reduceCtorEq, Nat.reduceLT, Nat.reduceLeDiff, Nat.reduceEqDiff, Nat.reduceAdd, Nat.reduceSub, Nat.reduceMul, Int.reduceEq, Int.reduceLT, Int.reduceLE, Int.reduceToNat, hk, h6, h0, hset, Nat.zero_add, le_add0, take_map_len, drop_map_len, ge0_len1, one_le_len1, Int.toNat_natCast, Int.reduceToNat, Int.toNat_one, Int.toNat_zero, Int.le_refl, Int.natCast_nonneg, List.drop_zero])
          refine hF _ ?_; clear hF F
          simp only [go_sem, reduceIte, reduceCtorEq, Nat.reduceLT, Nat.reduceLeDiff, Nat.reduceEqDiff, Nat.reduceAdd, Nat.reduceSub, Nat.reduceMul, Int.reduceEq, Int.reduceLT, Int.reduceLE, Int.reduceToNat, hk, h6, h0, hset, Nat.zero_add, le_add0, take_map_len, drop_map_len, ge0_len1, one_le_len1, Int.toNat_natCast, Int.reduceToNat, Int.toNat_one, Int.toNat_zero, Int.le_refl, Int.natCast_nonneg, List.drop_zero]
          refine run_seq ?_
          refine run_regS [6, 7] (by decide) (fun F hF => ?_)
          simp only [go_sem, reduceIte, reduceCtorEq, Nat.reduceLT, Nat.reduceLeDiff, Nat.reduceEqDiff, Nat.reduceAdd, Nat.reduceSub, Nat.reduceMul, Int.reduceEq, Int.reduceLT, Int.reduceLE, Int.reduceToNat, hk, h6]
          refine hF _ ?_; clear hF F
          simp only [go_sem, reduceIte, reduceCtorEq, Nat.reduceLT, Nat.reduceLeDiff, Nat.reduceEqDiff, Nat.reduceAdd, Nat.reduceSub, Nat.reduceMul, Int.reduceEq, Int.reduceLT, Int.reduceLE, Int.reduceToNat, hk, h6]
          refine run_ret ?_
          refine fin_ofF (.inr rfl) [55, 56, 69, 83, 103, 104] (show resVL _ _ [.cell 6 25, .tmp 7] = some _ from by simp only [go_sem, reduceIte, reduceCtorEq, Nat.reduceLT, Nat.reduceLeDiff, Nat.reduceEqDiff, Nat.reduceAdd, Nat.reduceSub, Nat.reduceMul, Int.reduceEq, Int.reduceLT, Int.reduceLE, Int.reduceToNat, resVL, resV1, AS.den, ldT_ty]; rfl) ?_ (by first | rfl | exact setA_clo _ | simp only [AV.clo, cloL, encV_clo, Bool.and_true, iA, bA])
          try simp only [go_sem, reduceIte, reduceCtorEq, Nat.reduceLT, Nat.reduceLeDiff, Nat.reduceEqDiff, Nat.reduceAdd, Nat.reduceSub, Nat.reduceMul, Int.reduceEq, Int.reduceLT, Int.reduceLE, Int.reduceToNat, AS.den, resV_one, resV_two, resV_three, clA_nil]
          show Le _ (setA (setV (s :: p) v x))
          rw [setV_down_obj hk h53 hy, if_pos h99]; exact setA_of ⟨6, 0, [], v.names.take v.mem⟩ _ _ _ _ (le_if hmn (le_take _ _ _ _)) (le_put _ _ _ _ _ _ _ hmi)
    · try simp only [decide_eq_true_eq, decide_eq_false_iff_not, Bool.not_eq_true', Bool.not_eq_false'] at h27
      first | exact absurd trivial h27 | exact h27.elim | exact absurd h27 (by decide) | exact absurd rfl h27


theorem le_putAll {α : Type} (f : α → AV) (n k i : Nat) (l : List α) (a : α) :
    Le (if l.length ≤ ((l.map f).set i (f a)).length then .sl n (((l.map f).set i (f a)).take l.length) [] else .gs k 0 l.length) (.sl n ((l.set i a).map f) []) := by
  have := le_put f n l.length k i l a (Nat.le_refl _)
  rwa [List.take_length] at this


theorem set23_list (W : World) (v : JV) (s : List UInt8) (p : List (List UInt8)) (x : JV) (hc : cntV v ≤ 2 ^ 30) (hp : p.length < 2 ^ 62) (hk : v.kind = 5) (hi5 : idxOk s = true) (ih : ∀ u, cntV u ≤ 2 ^ 30 → Pure Tryd.prog W 23 [encV u, .sl 1 (p.map AV.str) [], encV x] (setA (setV p u x))) : Pure Tryd.prog W 23 [encV v, .sl 1 ((s :: p).map AV.str) [], encV x] (setA (setV (s :: p) v x)) := by
  have hk6 : (v.kind = 6) = False := by simp only [eq_iff_iff, iff_false]; omega
  have h5 : (5 : Int) = 6 ↔ False := by decide
  have hln := cntV_len v
  refine pure_of_run Tryd.func23 rfl (by rw [Tryd.ntmps23]; simp) ?_
  rw [Tryd.ntmps23, st0_den]
  refine run_seq ?_
  refine run_regS [1, 3, 5, 6] (by decide) (fun F hF => ?_)
  simp only [go_sem, reduceIte, reduceCtorEq, Nat.reduceLT, Nat.reduceLeDiff, Nat.reduceEqDiff, Nat.reduceAdd, Nat.reduceSub, Nat.reduceMul, Int.reduceEq, Int.reduceLT, Int.reduceLE, Int.reduceToNat, hk, h5, hi5]
  refine hF _ ?_; clear hF F
  simp only [go_sem, reduceIte, reduceCtorEq, Nat.reduceLT, Nat.reduceLeDiff, Nat.reduceEqDiff, Nat.reduceAdd, Nat.reduceSub, Nat.reduceMul, Int.reduceEq, Int.reduceLT, Int.reduceLE, Int.reduceToNat, hk, h5, hi5]
  refine run_seq ?_
  refine run_seq ?_
  refine run_regS [1, 3, 5, 6, 18] (by decide) (fun F hF => ?_)
  simp only [go_sem, reduceIte, reduceCtorEq, Nat.reduceLT, Nat.reduceLeDiff, Nat.reduceEqDiff, Nat.reduceAdd, Nat.reduceSub, Nat.reduceMul, Int.reduceEq, Int.reduceLT, Int.reduceLE, Int.reduceToNat, hk, h5, hi5]
  refine hF _ ?_; clear hF F
  simp only [go_sem, reduceIte, reduceCtorEq, Nat.reduceLT, Nat.reduceLeDiff, Nat.reduceEqDiff, Nat.reduceAdd, Nat.reduceSub, Nat.reduceMul, Int.reduceEq, Int.reduceLT, Int.reduceLE, Int.reduceToNat, hk, h5, hi5]
  refine run_condA (by simp only [evL, evC, tg, reduceIte, Nat.reduceEqDiff]; rfl) (fun h18 => ?_) (fun h18 => ?_)
  · try simp only [decide_eq_true_eq, decide_eq_false_iff_not, Bool.not_eq_true', Bool.not_eq_false'] at h18
    exfalso; omega
  · try simp only [decide_eq_true_eq, decide_eq_false_iff_not, Bool.not_eq_true', Bool.not_eq_false'] at h18
    refine run_skip ?_
    refine run_seq ?_
    refine run_regS [1, 3, 5, 6, 8, 9] (by decide) (fun F hF => ?_)
    simp only [go_sem, reduceIte, reduceCtorEq, Nat.reduceLT, Nat.reduceLeDiff, Nat.reduceEqDiff, Nat.reduceAdd, Nat.reduceSub, Nat.reduceMul, Int.reduceEq, Int.reduceLT, Int.reduceLE, Int.reduceToNat, hk, h5, hi5, idxA, le_add0, take_map_len, drop_map_len, ge0_len1, one_le_len1, Int.toNat_natCast, Int.reduceToNat, Int.toNat_one, Int.toNat_zero, Int.le_refl, Int.natCast_nonneg, List.drop_zero]
    refine aCall_pure0 (index44 W s) call44 (.cons (.refl _) .nil) (by first | rfl | simp only [cloL, encV_clo, AV.clo, Bool.and_true, iA, bA, lsA_clo]) ?_
    try simp only [go_sem, reduceIte, reduceCtorEq, Nat.reduceLT, Nat.reduceLeDiff, Nat.reduceEqDiff, Nat.reduceAdd, Nat.reduceSub, Nat.reduceMul, Int.reduceEq, Int.reduceLT, Int.reduceLE, Int.reduceToNat, hk, h5, hi5, idxA, le_add0, take_map_len, drop_map_len, ge0_len1, one_le_len1, Int.toNat_natCast, Int.reduceToNat, Int.toNat_one, Int.toNat_zero, Int.le_refl, Int.natCast_nonneg, List.drop_zero]
    refine hF _ ?_; clear hF F
    simp only [go_sem, reduceIte, reduceCtorEq, Nat.reduceLT, Nat.reduceLeDiff, Nat.reduceEqDiff, Nat.reduceAdd, Nat.reduceSub, Nat.reduceMul, Int.reduceEq, Int.reduceLT, Int.reduceLE, Int.reduceToNat, hk, h5, hi5, idxA, le_add0, take_map_len, drop_map_len, ge0_len1, one_le_len1, Int.toNat_natCast, Int.reduceToNat, Int.toNat_one, Int.toNat_zero, Int.le_refl, Int.natCast_nonneg, List.drop_zero]
    refine run_seq ?_
    refine run_block ?_
    refine run_seq ?_
    refine run_regS [1, 3, 5, 6, 8, 9, 27] (by decide) (fun F hF => ?_)
    simp only [go_sem, reduceIte, reduceCtorEq, Nat.reduceLT, Nat.reduceLeDiff, Nat.reduceEqDiff, Nat.reduceAdd, Nat.reduceSub, Nat.reduceMul, Int.reduceEq, Int.reduceLT, Int.reduceLE, Int.reduceToNat, hk, h5, hi5]
    refine hF _ ?_; clear hF F
    simp only [go_sem, reduceIte, reduceCtorEq, Nat.reduceLT, Nat.reduceLeDiff, Nat.reduceEqDiff, Nat.reduceAdd, Nat.reduceSub, Nat.reduceMul, Int.reduceEq, Int.reduceLT, Int.reduceLE, Int.reduceToNat, hk, h5, hi5]
    refine run_condA (by simp only [evL, evC, tg, reduceIte, Nat.reduceEqDiff]; rfl) (fun h27 => ?_) (fun h27 => ?_)
    · try simp only [decide_eq_true_eq, decide_eq_false_iff_not, Bool.not_eq_true', Bool.not_eq_false'] at h27
      first | exact absurd trivial h27 | exact h27.elim | exact absurd h27 (by decide) | exact absurd rfl h27
    · try simp only [decide_eq_true_eq, decide_eq_false_iff_not, Bool.not_eq_true', Bool.not_eq_false'] at h27
      refine run_seq ?_
      refine run_regS [1, 3, 5, 6, 8, 31] (by decide) (fun F hF => ?_)
      simp only [go_sem, reduceIte, reduceCtorEq, Nat.reduceLT, Nat.reduceLeDiff, Nat.reduceEqDiff, Nat.reduceAdd, Nat.reduceSub, Nat.reduceMul, Int.reduceEq, Int.reduceLT, Int.reduceLE, Int.reduceToNat, hk, h5, hi5]
      refine hF _ ?_; clear hF F
      simp only [go_sem, reduceIte, reduceCtorEq, Nat.reduceLT, Nat.reduceLeDiff, Nat.reduceEqDiff, Nat.reduceAdd, Nat.reduceSub, Nat.reduceMul, Int.reduceEq, Int.reduceLT, Int.reduceLE, Int.reduceToNat, hk, h5, hi5]
      refine run_condA (by simp only [evL, evC, tg, reduceIte, Nat.reduceEqDiff]; rfl) (fun h31 => ?_) (fun h31 => ?_)
      · try simp only [decide_eq_true_eq, decide_eq_false_iff_not, Bool.not_eq_true', Bool.not_eq_false'] at h31
        first | exact absurd trivial h31 | exact h31.elim | exact absurd h31 (by decide) | exact absurd rfl h31
      · try simp only [decide_eq_true_eq, decide_eq_false_iff_not, Bool.not_eq_true', Bool.not_eq_false'] at h31
        refine run_seq ?_
        refine run_regS [1, 3, 5, 6, 40] (by decide) (fun F hF => ?_)
        simp only [go_sem, reduceIte, reduceCtorEq, Nat.reduceLT, Nat.reduceLeDiff, Nat.reduceEqDiff, Nat.reduceAdd, Nat.reduceSub, Nat.reduceMul, Int.reduceEq, Int.reduceLT, Int.reduceLE, Int.reduceToNat, hk, h5, hi5]
        refine hF _ ?_; clear hF F
        simp only [go_sem, reduceIte, reduceCtorEq, Nat.reduceLT, Nat.reduceLeDiff, Nat.reduceEqDiff, Nat.reduceAdd, Nat.reduceSub, Nat.reduceMul, Int.reduceEq, Int.reduceLT, Int.reduceLE, Int.reduceToNat, hk, h5, hi5]
        refine run_condA (by simp only [evL, evC, tg, reduceIte, Nat.reduceEqDiff]; rfl) (fun h40 => ?_) (fun h40 => ?_)
        · try simp only [decide_eq_true_eq, decide_eq_false_iff_not, Bool.not_eq_true', Bool.not_eq_false'] at h40
          refine run_seq ?_
          refine run_regS [6, 7] (by decide) (fun F hF => ?_)
          simp only [go_sem, reduceIte, reduceCtorEq, Nat.reduceLT, Nat.reduceLeDiff, Nat.reduceEqDiff, Nat.reduceAdd, Nat.reduceSub, Nat.reduceMul, Int.reduceEq, Int.reduceLT, Int.reduceLE, Int.reduceToNat, hk, h5, hi5]
          refine hF _ ?_; clear hF F
          simp only [go_sem, reduceIte, reduceCtorEq, Nat.reduceLT, Nat.reduceLeDiff, Nat.reduceEqDiff, Nat.reduceAdd, Nat.reduceSub, Nat.reduceMul, Int.reduceEq, Int.reduceLT, Int.reduceLE, Int.reduceToNat, hk, h5, hi5]
          refine run_ret ?_
          refine fin_ofF (.inr rfl) [55, 56, 69, 83, 103, 104] (show resVL _ _ [.cell 6 25, .tmp 7] = some _ from by simp only [go_sem, reduceIte, reduceCtorEq, Nat.reduceLT, Nat.reduceLeDiff, Nat.reduceEqDiff, Nat.reduceAdd, Nat.reduceSub, Nat.reduceMul, Int.reduceEq, Int.reduceLT, Int.reduceLE, Int.reduceToNat, resVL, resV1, AS.den, ldT_ty]; rfl) ?_ (by first | rfl | exact setA_clo _ | simp only [AV.clo, cloL, encV_clo, Bool.and_true, iA, bA])
          try simp only [go_sem, reduceIte, reduceCtorEq, Nat.reduceLT, Nat.reduceLeDiff, Nat.reduceEqDiff, Nat.reduceAdd, Nat.reduceSub, Nat.reduceMul, Int.reduceEq, Int.reduceLT, Int.reduceLE, Int.reduceToNat, AS.den, resV_one, resV_two, resV_three, clA_nil]
          rw [setV_far hk hi5 (by omega)]; exact setA_zero
        · try simp only [decide_eq_true_eq, decide_eq_false_iff_not, Bool.not_eq_true', Bool.not_eq_false'] at h40
          refine run_skip ?_
          refine run_blk ?_
          refine run_seq ?_
          refine run_regD [1, 3, 5, 6, 10] (by decide) mixed0 (by decide) (fun F hF => ?_)
          simp only [go_sem, reduceIte, reduceCtorEq, Nat.reduceLT, Nat.reduceLeDiff, Nat.reduceEqDiff, Nat.reduceAdd, Nat.reduceSub, Nat.reduceMul, Int.reduceEq, Int.reduceLT, Int.reduceLE, Int.reduceToNat, hk, h5, hi5, le_add0, take_map_len, drop_map_len, ge0_len1, one_le_len1, Int.toNat_natCast, Int.reduceToNat, Int.toNat_one, Int.toNat_zero, Int.le_refl, Int.natCast_nonneg, List.drop_zero]
          refine aCall_flat0 (child46 W v s (okV_names (okV_cnt v hc))) call46 (.cons (.refl _) (.cons (.refl _) .nil)) (by first | rfl | simp only [cloL, encV_clo, AV.clo, Bool.and_true, iA, bA, lsA_clo]) (by rfl) ?_
          try simp only [go_sem, reduceIte, reduceCtorEq, Nat.reduceLT, Nat.reduceLeDiff, Nat.reduceEqDiff, Nat.reduceAdd, Nat.reduceSub, Nat.reduceMul, Int.reduceEq, Int.reduceLT, Int.reduceLE, Int.reduceToNat, hk, h5, hi5, le_add0, take_map_len, drop_map_len, ge0_len1, one_le_len1, Int.toNat_natCast, Int.reduceToNat, Int.toNat_one, Int.toNat_zero, Int.le_refl, Int.natCast_nonneg, List.drop_zero]
          refine ⟨by decide, ?_⟩
          refine hF _ ?_; clear hF F
          simp only [go_sem, reduceIte, reduceCtorEq, Nat.reduceLT, Nat.reduceLeDiff, Nat.reduceEqDiff, Nat.reduceAdd, Nat.reduceSub, Nat.reduceMul, Int.reduceEq, Int.reduceLT, Int.reduceLE, Int.reduceToNat, hk, h5, hi5, le_add0, take_map_len, drop_map_len, ge0_len1, one_le_len1, Int.toNat_natCast, Int.reduceToNat, Int.toNat_one, Int.toNat_zero, Int.le_refl, Int.natCast_nonneg, List.drop_zero]
          refine run_seq ?_
          refine run_seq ?_
          refine run_regS [1, 3, 5, 6, 10, 53] (by decide) (fun F hF => ?_)
          simp only [go_sem, reduceIte, reduceCtorEq, Nat.reduceLT, Nat.reduceLeDiff, Nat.reduceEqDiff, Nat.reduceAdd, Nat.reduceSub, Nat.reduceMul, Int.reduceEq, Int.reduceLT, Int.reduceLE, Int.reduceToNat, hk, h5, hi5]
          refine hF _ ?_; clear hF F
          simp only [go_sem, reduceIte, reduceCtorEq, Nat.reduceLT, Nat.reduceLeDiff, Nat.reduceEqDiff, Nat.reduceAdd, Nat.reduceSub, Nat.reduceMul, Int.reduceEq, Int.reduceLT, Int.reduceLE, Int.reduceToNat, hk, h5, hi5]
          refine run_condA (by simp only [evL, evC, tg, reduceIte, Nat.reduceEqDiff]; rfl) (fun h53 => ?_) (fun h53 => ?_)
          · try simp only [decide_eq_true_eq, decide_eq_false_iff_not, Bool.not_eq_true', Bool.not_eq_false'] at h53
            refine run_seq ?_
            refine run_regS [1, 3, 5, 6, 11] (by decide) (fun F hF => ?_)
            simp only [go_sem, reduceIte, reduceCtorEq, Nat.reduceLT, Nat.reduceLeDiff, Nat.reduceEqDiff, Nat.reduceAdd, Nat.reduceSub, Nat.reduceMul, Int.reduceEq, Int.reduceLT, Int.reduceLE, Int.reduceToNat, hk, h5, hi5]
            refine aCall_retH0 [(25, 56)] (copied49_list W v hc hk6) call49 (.cons (.refl _) .nil) (by first | rfl | simp only [cloL, encV_clo, AV.clo, Bool.and_true, iA, bA, lsA_clo]) (by rfl) (by rfl) (by rfl) ?_
            try simp only [go_sem, reduceIte, reduceCtorEq, Nat.reduceLT, Nat.reduceLeDiff, Nat.reduceEqDiff, Nat.reduceAdd, Nat.reduceSub, Nat.reduceMul, Int.reduceEq, Int.reduceLT, Int.reduceLE, Int.reduceToNat, hk, h5, hi5]
            refine hF _ ?_; clear hF F
            simp only [go_sem, reduceIte, reduceCtorEq, Nat.reduceLT, Nat.reduceLeDiff, Nat.reduceEqDiff, Nat.reduceAdd, Nat.reduceSub, Nat.reduceMul, Int.reduceEq, Int.reduceLT, Int.reduceLE, Int.reduceToNat, hk, h5, hi5]
            refine run_seq ?_
            refine run_seq ?_
            refine run_regS [1, 3, 5, 6, 11, 58] (by decide) (fun F hF => ?_)
            simp only [go_sem, reduceIte, reduceCtorEq, Nat.reduceLT, Nat.reduceLeDiff, Nat.reduceEqDiff, Nat.reduceAdd, Nat.reduceSub, Nat.reduceMul, Int.reduceEq, Int.reduceLT, Int.reduceLE, Int.reduceToNat, hk, h5, hi5]
            refine hF _ ?_; clear hF F
            simp only [go_sem, reduceIte, reduceCtorEq, Nat.reduceLT, Nat.reduceLeDiff, Nat.reduceEqDiff, Nat.reduceAdd, Nat.reduceSub, Nat.reduceMul, Int.reduceEq, Int.reduceLT, Int.reduceLE, Int.reduceToNat, hk, h5, hi5]
            refine run_condA (by simp only [evL, evC, tg, reduceIte, Nat.reduceEqDiff]; rfl) (fun h58 => ?_) (fun h58 => ?_)
            · try simp only [decide_eq_true_eq, decide_eq_false_iff_not, Bool.not_eq_true', Bool.not_eq_false'] at h58
              first | exact absurd trivial h58 | exact h58.elim | exact absurd h58 (by decide) | exact absurd rfl h58
            · try simp only [decide_eq_true_eq, decide_eq_false_iff_not, Bool.not_eq_true', Bool.not_eq_false'] at h58
              refine run_skip ?_
              refine run_seq ?_
              refine run_regD [6, 11] (by decide) mixed0 (by decide) (fun F hF => ?_)
              simp only [go_sem, reduceIte, reduceCtorEq, Nat.reduceLT, Nat.reduceLeDiff, Nat.reduceEqDiff, Nat.reduceAdd, Nat.reduceSub, Nat.reduceMul, Int.reduceEq, Int.reduceLT, Int.reduceLE, Int.reduceToNat, hk, h5, hi5, le_add0, take_map_len, drop_map_len, ge0_len1, one_le_len1, Int.toNat_natCast, Int.reduceToNat, Int.toNat_one, Int.toNat_zero, Int.le_refl, Int.natCast_nonneg, List.drop_zero]
              repeat (first | (apply And.intro; · omega) | simp only [go_sem, reduceIte, reduceCtorEq, Nat.reduceLT, Nat.reduceLeDiff, Nat.reduceEqDiff, Nat.reduceAdd, Nat.reduceSub, Nat.reduceMul, Int.reduceEq, Int.reduceLT, Int.reduceLE, Int.reduceToNat, hk, h5, hi5, le_add0, take_map_len, drop_map_len, ge0_len1, one_le_len1, Int.toNat_natCast, Int.reduceToNat, Int.toNat_one, Int.toNat_zero, Int.le_refl, Int.natCast_nonneg, List.drop_zero])
              refine aCall_pure0 (fresh51 W p x hp) call51 (.cons (.refl _) (.cons (.refl _) .nil)) (by first | rfl | simp only [cloL, encV_clo, AV.clo, Bool.and_true, iA, bA, lsA_clo]) ?_
              try simp only [go_sem, reduceIte, reduceCtorEq, Nat.reduceLT, Nat.reduceLeDiff, Nat.reduceEqDiff, Nat.reduceAdd, Nat.reduceSub, Nat.reduceMul, Int.reduceEq, Int.reduceLT, Int.reduceLE, Int.reduceToNat, hk, h5, hi5, le_add0, take_map_len, drop_map_len, ge0_len1, one_le_len1, Int.toNat_natCast, Int.reduceToNat, Int.toNat_one, Int.toNat_zero, Int.le_refl, Int.natCast_nonneg, List.drop_zero]
              repeat (first | (apply And.intro; · omega) | simp only [go_sem, reduceIte, reduceCtorEq, Nat.reduceLT, Nat.reduceLeDiff, Nat.reduceEqDiff, Nat.reduceAdd, Nat.reduceSub, Nat.reduceMul, Int.reduceEq, Int.reduceLT, Int.reduceLE, Int.reduceToNat, hk, h5, hi5, le_add0, take_map_len, drop_map_len, ge0_len1, one_le_len1, Int.toNat_natCast, Int.reduceToNat, Int.toNat_one, Int.toNat_zero, Int.le_refl, Int.natCast_nonneg, List.drop_zero])
              refine ⟨by decide, ?_⟩
              refine hF _ ?_; clear hF F
              simp only [go_sem, reduceIte, reduceCtorEq, Nat.reduceLT, Nat.reduceLeDiff, Nat.reduceEqDiff, Nat.reduceAdd, Nat.reduceSub, Nat.reduceMul, Int.reduceEq, Int.reduceLT, Int.reduceLE, Int.reduceToNat, hk, h5, hi5, le_add0, take_map_len, drop_map_len, ge0_len1, one_le_len1, Int.toNat_natCast, Int.reduceToNat, Int.toNat_one, Int.toNat_zero, Int.le_refl, Int.natCast_nonneg, List.drop_zero]
              refine run_seq ?_
              refine run_regS [6, 7] (by decide) (fun F hF => ?_)
              simp only [go_sem, reduceIte, reduceCtorEq, Nat.reduceLT, Nat.reduceLeDiff, Nat.reduceEqDiff, Nat.reduceAdd, Nat.reduceSub, Nat.reduceMul, Int.reduceEq, Int.reduceLT, Int.reduceLE, Int.reduceToNat, hk, h5, hi5]
              refine hF _ ?_; clear hF F
              simp only [go_sem, reduceIte, reduceCtorEq, Nat.reduceLT, Nat.reduceLeDiff, Nat.reduceEqDiff, Nat.reduceAdd, Nat.reduceSub, Nat.reduceMul, Int.reduceEq, Int.reduceLT, Int.reduceLE, Int.reduceToNat, hk, h5, hi5]
              refine run_ret ?_
              refine fin_ofF (.inr rfl) [55, 56, 69, 83, 103, 104] (show resVL _ _ [.cell 6 25, .tmp 7] = some _ from by simp only [go_sem, reduceIte, reduceCtorEq, Nat.reduceLT, Nat.reduceLeDiff, Nat.reduceEqDiff, Nat.reduceAdd, Nat.reduceSub, Nat.reduceMul, Int.reduceEq, Int.reduceLT, Int.reduceLE, Int.reduceToNat, resVL, resV1, AS.den, ldT_ty]; rfl) ?_ (by first | rfl | exact setA_clo _ | simp only [AV.clo, cloL, encV_clo, Bool.and_true, iA, bA])
              try simp only [go_sem, reduceIte, reduceCtorEq, Nat.reduceLT, Nat.reduceLeDiff, Nat.reduceEqDiff, Nat.reduceAdd, Nat.reduceSub, Nat.reduceMul, Int.reduceEq, Int.reduceLT, Int.reduceLE, Int.reduceToNat, AS.den, resV_one, resV_two, resV_three, clA_nil]
              rw [setV_grow_list hk hi5 (by omega) h53]
              rw [hk]
              exact setA_of ⟨5, 0, [], []⟩ _ _ _ _ (.nil 1) (le_snocAll _ _ _ _)
          · try simp only [decide_eq_true_eq, decide_eq_false_iff_not, Bool.not_eq_true', Bool.not_eq_false'] at h53
            obtain ⟨y, hy⟩ := child_get (j := v) (s := s) (by omega)
            have h0 : (0 ≤ v.child s) = True := by simp only [eq_iff_iff, iff_true]; omega
            have hlt := child_lt v s
            refine run_skip ?_
            refine run_seq ?_
            refine run_regD [3, 6, 10, 13, 14] (by decide) mixed0 (by decide) (fun F hF => ?_)
            simp only [go_sem, reduceIte, reduceCtorEq, Nat.reduceLT, Nat.reduceLeDiff, Nat.reduceEqDiff, Nat.reduceAdd, Nat.reduceSub, Nat.reduceMul, Int.reduceEq, Int.reduceLT, Int.reduceLE, Int.reduceToNat, hk, h5, hi5, setA, h0, hy, List.getElem?_map, Option.map_some, le_add0, take_map_len, drop_map_len, ge0_len1, one_le_len1, Int.toNat_natCast, Int.reduceToNat, Int.toNat_one, Int.toNat_zero, Int.le_refl, Int.natCast_nonneg, List.drop_zero]
            repeat (first | (apply And.intro; · omega) | simp only [go_sem, reduceIte, reduceCtorEq, Nat.reduceLT, Nat.reduceLeDiff, Nat.reduceEqDiff, Nat.reduceAdd, Nat.reduceSub, Nat.reduceMul, Int.reduceEq, Int.reduceLT, Int.reduceLE, Int.reduceToNat, hk, h5, hi5, setA, h0, hy, List.getElem?_map, Option.map_some, le_add0, take_map_len, drop_map_len, ge0_len1, one_le_len1, Int.toNat_natCast, Int.reduceToNat, Int.toNat_one, Int.toNat_zero, Int.le_refl, Int.natCast_nonneg, List.drop_zero])
            refine aCall_pure0 (ih y (by have := cntV_item hy; omega)) call23 (.cons (.refl _) (.cons (.refl _) (.cons (.refl _) .nil))) (by first | rfl | simp only [cloL, encV_clo, AV.clo, Bool.and_true, iA, bA, lsA_clo]) ?_
            try simp only [go_sem, reduceIte, reduceCtorEq, Nat.reduceLT, Nat.reduceLeDiff, Nat.reduceEqDiff, Nat.reduceAdd, Nat.reduceSub, Nat.reduceMul, Int.reduceEq, Int.reduceLT, Int.reduceLE, Int.reduceToNat, hk, h5, hi5, setA, h0, hy, List.getElem?_map, Option.map_some, le_add0, take_map_len, drop_map_len, ge0_len1, one_le_len1, Int.toNat_natCast, Int.reduceToNat, Int.toNat_one, Int.toNat_zero, Int.le_refl, Int.natCast_nonneg, List.drop_zero]
            repeat (first | (apply And.intro; · omega) | simp only [go_sem, reduceIte, reduceCtorEq, Nat.reduceLT, Nat.reduceLeDiff, Nat.reduceEqDiff, Nat.reduceAdd, Nat.reduceSub, Nat.reduceMul, Int.reduceEq, Int.reduceLT, Int.reduceLE, Int.reduceToNat, hk, h5, hi5, setA, h0, hy, List.getElem?_map, Option.map_some, le_add0, take_map_len, drop_map_len, ge0_len1, one_le_len1, Int.toNat_natCast, Int.reduceToNat, Int.toNat_one, Int.toNat_zero, Int.le_refl, Int.natCast_nonneg, List.drop_zero])
            refine ⟨by decide, ?_⟩
            refine hF _ ?_; clear hF F
            simp only [go_sem, reduceIte, reduceCtorEq, Nat.reduceLT, Nat.reduceLeDiff, Nat.reduceEqDiff, Nat.reduceAdd, Nat.reduceSub, Nat.reduceMul, Int.reduceEq, Int.reduceLT, Int.reduceLE, Int.reduceToNat, hk, h5, hi5, setA, h0, hy, List.getElem?_map, Option.map_some, le_add0, take_map_len, drop_map_len, ge0_len1, one_le_len1, Int.toNat_natCast, Int.reduceToNat, Int.toNat_one, Int.toNat_zero, Int.le_refl, Int.natCast_nonneg, List.drop_zero]
            refine run_seq ?_
            refine run_seq ?_
            refine run_regS [3, 6, 10, 13, 14, 99] (by decide) (fun F hF => ?_)
            simp only [go_sem, reduceIte, reduceCtorEq, Nat.reduceLT, Nat.reduceLeDiff, Nat.reduceEqDiff, Nat.reduceAdd, Nat.reduceSub, Nat.reduceMul, Int.reduceEq, Int.reduceLT, Int.reduceLE, Int.reduceToNat, hk, h5, hi5]
            refine hF _ ?_; clear hF F
            simp only [go_sem, reduceIte, reduceCtorEq, Nat.reduceLT, Nat.reduceLeDiff, Nat.reduceEqDiff, Nat.reduceAdd, Nat.reduceSub, Nat.reduceMul, Int.reduceEq, Int.reduceLT, Int.reduceLE, Int.reduceToNat, hk, h5, hi5]
            refine run_condA (by simp only [evL, evC, tg, reduceIte, Nat.reduceEqDiff]; rfl) (fun h99 => ?_) (fun h99 => ?_)
            · try simp only [decide_eq_true_eq, decide_eq_false_iff_not, Bool.not_eq_true', Bool.not_eq_false'] at h99
              refine run_seq ?_
              refine run_regS [6, 7] (by decide) (fun F hF => ?_)
              simp only [go_sem, reduceIte, reduceCtorEq, Nat.reduceLT, Nat.reduceLeDiff, Nat.reduceEqDiff, Nat.reduceAdd, Nat.reduceSub, Nat.reduceMul, Int.reduceEq, Int.reduceLT, Int.reduceLE, Int.reduceToNat, hk, h5, hi5]
              refine hF _ ?_; clear hF F
              simp only [go_sem, reduceIte, reduceCtorEq, Nat.reduceLT, Nat.reduceLeDiff, Nat.reduceEqDiff, Nat.reduceAdd, Nat.reduceSub, Nat.reduceMul, Int.reduceEq, Int.reduceLT, Int.reduceLE, Int.reduceToNat, hk, h5, hi5]
              refine run_ret ?_
              refine fin_ofF (.inr rfl) [55, 56, 69, 83, 103, 104] (show resVL _ _ [.cell 6 25, .tmp 7] = some _ from by simp only [go_sem, reduceIte, reduceCtorEq, Nat.reduceLT, Nat.reduceLeDiff, Nat.reduceEqDiff, Nat.reduceAdd, Nat.reduceSub, Nat.reduceMul, Int.reduceEq, Int.reduceLT, Int.reduceLE, Int.reduceToNat, resVL, resV1, AS.den, ldT_ty]; rfl) ?_ (by first | rfl | exact setA_clo _ | simp only [AV.clo, cloL, encV_clo, Bool.and_true, iA, bA])
              try simp only [go_sem, reduceIte, reduceCtorEq, Nat.reduceLT, Nat.reduceLeDiff, Nat.reduceEqDiff, Nat.reduceAdd, Nat.reduceSub, Nat.reduceMul, Int.reduceEq, Int.reduceLT, Int.reduceLE, Int.reduceToNat, AS.den, resV_one, resV_two, resV_three, clA_nil]
              show Le _ (setA (setV (s :: p) v x))
              rw [setV_down_list hk hi5 (by omega) h53 hy, if_neg h99]; exact setA_zero
            · try simp only [decide_eq_true_eq, decide_eq_false_iff_not, Bool.not_eq_true', Bool.not_eq_false'] at h99
              have hset : (v.items.map encV)[(v.child s).toNat]? = some (encV y) := by rw [List.getElem?_map, hy]; rfl
              refine run_skip ?_
              refine run_seq ?_
              refine run_regS [6, 10, 13, 15] (by decide) (fun F hF => ?_)
              simp only [go_sem, reduceIte, reduceCtorEq, Nat.reduceLT, Nat.reduceLeDiff, Nat.reduceEqDiff, Nat.reduceAdd, Nat.reduceSub, Nat.reduceMul, Int.reduceEq, Int.reduceLT, Int.reduceLE, Int.reduceToNat, hk, h5, hi5]
              refine aCall_retH0 [(25, 104)] (copied49_list W v hc hk6) call49 (.cons (.refl _) .nil) (by first | rfl | simp only [cloL, encV_clo, AV.clo, Bool.and_true, iA, bA, lsA_clo]) (by rfl) (by rfl) (by rfl) ?_
              try simp only [go_sem, reduceIte, reduceCtorEq, Nat.reduceLT, Nat.reduceLeDiff, Nat.reduceEqDiff, Nat.reduceAdd, Nat.reduceSub, Nat.reduceMul, Int.reduceEq, Int.reduceLT, Int.reduceLE, Int.reduceToNat, hk, h5, hi5]
              refine hF _ ?_; clear hF F
              simp only [go_sem, reduceIte, reduceCtorEq, Nat.reduceLT, Nat.reduceLeDiff, Nat.reduceEqDiff, Nat.reduceAdd, Nat.reduceSub, Nat.reduceMul, Int.reduceEq, Int.reduceLT, Int.reduceLE, Int.reduceToNat, hk, h5, hi5]
              refine run_seq ?_
              refine run_regS [6, 15] (by decide) (fun F hF => ?_)
              simp only [go_sem, reduceIte, reduceCtorEq, Nat.reduceLT, Nat.reduceLeDiff, Nat.reduceEqDiff, Nat.reduceAdd, Nat.reduceSub, Nat.reduceMul, Int.reduceEq, Int.reduceLT, Int.reduceLE, Int.reduceToNat, hk, h5, hi5, h0, hset, Nat.zero_add, le_add0, take_map_len, drop_map_len, ge0_len1, one_le_len1, Int.toNat_natCast, Int.reduceToNat, Int.toNat_one, Int.toNat_zero, Int.le_refl, Int.natCast_nonneg, List.drop_zero]
              repeat (first | (apply And.intro; · omega) | simp only [go_sem, reduceIte, reduceCtorEq, Nat.reduceLT, Nat.reduceLeDiff, Nat.reduceEqDiff, Nat.reduceAdd, Nat.reduceSub, Nat.reduceMul, Int.reduceEq, Int.reduceLT, Int.reduceLE, Int.reduceToNat, hk, h5, hi5, h0, hset, Nat.zero_add, le_add0, take_map_len, drop_map_len, ge0_len1, one_le_len1, Int.toNat_natCast, Int.reduceToNat, Int.toNat_one, Int.toNat_zero, Int.le_refl, Int.natCast_nonneg, List.drop_zero])
              refine hF _ ?_; clear hF F
              simp only [go_sem, reduceIte, reduceCtorEq, Nat.reduceLT, Nat.reduceLeDiff, Nat.reduceEqDiff, Nat.reduceAdd, Nat.reduceSub, Nat.reduceMul, Int.reduceEq, Int.reduceLT, Int.reduceLE, Int.reduceToNat, hk, h5, hi5, h0, hset, Nat.zero_add, le_add0, take_map_len, drop_map_len, ge0_len1, one_le_len1, Int.toNat_natCast, Int.reduceToNat, Int.toNat_one, Int.toNat_zero, Int.le_refl, Int.natCast_nonneg, List.drop_zero]
              refine run_seq ?_
              refine run_regS [6, 7] (by decide) (fun F hF => ?_)
              simp only [go_sem, reduceIte, reduceCtorEq, Nat.reduceLT, Nat.reduceLeDiff, Nat.reduceEqDiff, Nat.reduceAdd, Nat.reduceSub, Nat.reduceMul, Int.reduceEq, Int.reduceLT, Int.reduceLE, Int.reduceToNat, hk, h5, hi5]
              refine hF _ ?_; clear hF F
              simp only [go_sem, reduceIte, reduceCtorEq, Nat.reduceLT, Nat.reduceLeDiff, Nat.reduceEqDiff, Nat.reduceAdd, Nat.reduceSub, Nat.reduceMul, Int.reduceEq, Int.reduceLT, Int.reduceLE, Int.reduceToNat, hk, h5, hi5]
              refine run_ret ?_
              refine fin_ofF (.inr rfl) [55, 56, 69, 83, 103, 104] (show resVL _ _ [.cell 6 25, .tmp 7] = some _ from by simp only [go_sem, reduceIte, reduceCtorEq, Nat.reduceLT, Nat.reduceLeDiff, Nat.reduceEqDiff, Nat.reduceAdd, Nat.reduceSub, Nat.reduceMul, Int.reduceEq, Int.reduceLT, Int.reduceLE, Int.reduceToNat, resVL, resV1, AS.den, ldT_ty]; rfl) ?_ (by first | rfl | exact setA_clo _ | simp only [AV.clo, cloL, encV_clo, Bool.and_true, iA, bA])
              try simp only [go_sem, reduceIte, reduceCtorEq, Nat.reduceLT, Nat.reduceLeDiff, Nat.reduceEqDiff, Nat.reduceAdd, Nat.reduceSub, Nat.reduceMul, Int.reduceEq, Int.reduceLT, Int.reduceLE, Int.reduceToNat, AS.den, resV_one, resV_two, resV_three, clA_nil]
              show Le _ (setA (setV (s :: p) v x))
              rw [setV_down_list hk hi5 (by omega) h53 hy, if_pos h99, hk]; exact setA_of ⟨5, 0, [], []⟩ _ _ _ _ (.nil 1) (le_putAll _ _ _ _ _ _)

theorem set23_cross (W : World) (v : JV) (s : List UInt8) (p : List (List UInt8)) (x : JV) (hc : cntV v ≤ 2 ^ 30) (hp : p.length < 2 ^ 62) (h1 : ¬ v.kind = 6) (h2 : ¬ (v.kind = 5 ∧ idxOk s = true)) : Pure Tryd.prog W 23 [encV v, .sl 1 ((s :: p).map AV.str) [], encV x] (setA (setV (s :: p) v x)) := by
  refine pure_of_run Tryd.func23 rfl (by rw [Tryd.ntmps23]; simp) ?_
  rw [Tryd.ntmps23, st0_den]
  refine run_seq ?_
  refine run_regS [1, 3, 5, 6] (by decide) (fun F hF => ?_)
  simp only [go_sem, reduceIte, reduceCtorEq, Nat.reduceLT, Nat.reduceLeDiff, Nat.reduceEqDiff, Nat.reduceAdd, Nat.reduceSub, Nat.reduceMul, Int.reduceEq, Int.reduceLT, Int.reduceLE, Int.reduceToNat]
  refine hF _ ?_; clear hF F
  simp only [go_sem, reduceIte, reduceCtorEq, Nat.reduceLT, Nat.reduceLeDiff, Nat.reduceEqDiff, Nat.reduceAdd, Nat.reduceSub, Nat.reduceMul, Int.reduceEq, Int.reduceLT, Int.reduceLE, Int.reduceToNat]
  refine run_seq ?_
  refine run_seq ?_
  refine run_regS [1, 3, 5, 6, 18] (by decide) (fun F hF => ?_)
  simp only [go_sem, reduceIte, reduceCtorEq, Nat.reduceLT, Nat.reduceLeDiff, Nat.reduceEqDiff, Nat.reduceAdd, Nat.reduceSub, Nat.reduceMul, Int.reduceEq, Int.reduceLT, Int.reduceLE, Int.reduceToNat]
  refine hF _ ?_; clear hF F
  simp only [go_sem, reduceIte, reduceCtorEq, Nat.reduceLT, Nat.reduceLeDiff, Nat.reduceEqDiff, Nat.reduceAdd, Nat.reduceSub, Nat.reduceMul, Int.reduceEq, Int.reduceLT, Int.reduceLE, Int.reduceToNat]
  refine run_condA (by simp only [evL, evC, tg, reduceIte, Nat.reduceEqDiff]; rfl) (fun h18 => ?_) (fun h18 => ?_)
  · try simp only [decide_eq_true_eq, decide_eq_false_iff_not, Bool.not_eq_true', Bool.not_eq_false'] at h18
    exfalso; omega
  · try simp only [decide_eq_true_eq, decide_eq_false_iff_not, Bool.not_eq_true', Bool.not_eq_false'] at h18
    refine run_skip ?_
    refine run_seq ?_
    refine run_regS [1, 3, 5, 6, 8, 9] (by decide) (fun F hF => ?_)
    simp only [go_sem, reduceIte, reduceCtorEq, Nat.reduceLT, Nat.reduceLeDiff, Nat.reduceEqDiff, Nat.reduceAdd, Nat.reduceSub, Nat.reduceMul, Int.reduceEq, Int.reduceLT, Int.reduceLE, Int.reduceToNat, idxA, le_add0, take_map_len, drop_map_len, ge0_len1, one_le_len1, Int.toNat_natCast, Int.reduceToNat, Int.toNat_one, Int.toNat_zero, Int.le_refl, Int.natCast_nonneg, List.drop_zero]
    refine aCall_pure0 (index44 W s) call44 (.cons (.refl _) .nil) (by first | rfl | simp only [cloL, encV_clo, AV.clo, Bool.and_true, iA, bA, lsA_clo]) ?_
    try simp only [go_sem, reduceIte, reduceCtorEq, Nat.reduceLT, Nat.reduceLeDiff, Nat.reduceEqDiff, Nat.reduceAdd, Nat.reduceSub, Nat.reduceMul, Int.reduceEq, Int.reduceLT, Int.reduceLE, Int.reduceToNat, idxA, le_add0, take_map_len, drop_map_len, ge0_len1, one_le_len1, Int.toNat_natCast, Int.reduceToNat, Int.toNat_one, Int.toNat_zero, Int.le_refl, Int.natCast_nonneg, List.drop_zero]
    refine hF _ ?_; clear hF F
    simp only [go_sem, reduceIte, reduceCtorEq, Nat.reduceLT, Nat.reduceLeDiff, Nat.reduceEqDiff, Nat.reduceAdd, Nat.reduceSub, Nat.reduceMul, Int.reduceEq, Int.reduceLT, Int.reduceLE, Int.reduceToNat, idxA, le_add0, take_map_len, drop_map_len, ge0_len1, one_le_len1, Int.toNat_natCast, Int.reduceToNat, Int.toNat_one, Int.toNat_zero, Int.le_refl, Int.natCast_nonneg, List.drop_zero]
    refine run_seq ?_
    refine run_block ?_
    refine run_seq ?_
    refine run_regS [1, 3, 5, 6, 8, 9, 27] (by decide) (fun F hF => ?_)
    simp only [go_sem, reduceIte, reduceCtorEq, Nat.reduceLT, Nat.reduceLeDiff, Nat.reduceEqDiff, Nat.reduceAdd, Nat.reduceSub, Nat.reduceMul, Int.reduceEq, Int.reduceLT, Int.reduceLE, Int.reduceToNat]
    refine hF _ ?_; clear hF F
    simp only [go_sem, reduceIte, reduceCtorEq, Nat.reduceLT, Nat.reduceLeDiff, Nat.reduceEqDiff, Nat.reduceAdd, Nat.reduceSub, Nat.reduceMul, Int.reduceEq, Int.reduceLT, Int.reduceLE, Int.reduceToNat]
    refine run_condA (by simp only [evL, evC, tg, reduceIte, Nat.reduceEqDiff]; rfl) (fun h27 => ?_) (fun h27 => ?_)
    · try simp only [decide_eq_true_eq, decide_eq_false_iff_not, Bool.not_eq_true', Bool.not_eq_false'] at h27
      exact absurd h27 h1
    · try simp only [decide_eq_true_eq, decide_eq_false_iff_not, Bool.not_eq_true', Bool.not_eq_false'] at h27
      refine run_seq ?_
      refine run_regS [1, 3, 5, 6, 8, 31] (by decide) (fun F hF => ?_)
      simp only [go_sem, reduceIte, reduceCtorEq, Nat.reduceLT, Nat.reduceLeDiff, Nat.reduceEqDiff, Nat.reduceAdd, Nat.reduceSub, Nat.reduceMul, Int.reduceEq, Int.reduceLT, Int.reduceLE, Int.reduceToNat]
      all_goals (try (refine aB_split' (fun hg0 => ?_) (fun hg0 => ?_) <;> simp only [go_sem, reduceIte, reduceCtorEq, Nat.reduceLT, Nat.reduceLeDiff, Nat.reduceEqDiff, Nat.reduceAdd, Nat.reduceSub, Nat.reduceMul, Int.reduceEq, Int.reduceLT, Int.reduceLE, Int.reduceToNat, hg0]))
      all_goals (refine hF _ ?_; clear hF F; simp only [go_sem, reduceIte, reduceCtorEq, Nat.reduceLT, Nat.reduceLeDiff, Nat.reduceEqDiff, Nat.reduceAdd, Nat.reduceSub, Nat.reduceMul, Int.reduceEq, Int.reduceLT, Int.reduceLE, Int.reduceToNat])
      ·
        refine run_condA (by simp only [evL, evC, tg, reduceIte, Nat.reduceEqDiff]; rfl) (fun h31 => ?_) (fun h31 => ?_)
        · try simp only [decide_eq_true_eq, decide_eq_false_iff_not, Bool.not_eq_true', Bool.not_eq_false'] at h31
          refine run_seq ?_
          refine run_regS [6, 7] (by decide) (fun F hF => ?_)
          simp only [go_sem, reduceIte, reduceCtorEq, Nat.reduceLT, Nat.reduceLeDiff, Nat.reduceEqDiff, Nat.reduceAdd, Nat.reduceSub, Nat.reduceMul, Int.reduceEq, Int.reduceLT, Int.reduceLE, Int.reduceToNat]
          refine hF _ ?_; clear hF F
          simp only [go_sem, reduceIte, reduceCtorEq, Nat.reduceLT, Nat.reduceLeDiff, Nat.reduceEqDiff, Nat.reduceAdd, Nat.reduceSub, Nat.reduceMul, Int.reduceEq, Int.reduceLT, Int.reduceLE, Int.reduceToNat]
          refine run_ret ?_
          refine fin_ofF (.inr rfl) [] (show resVL _ _ [.cell 6 25, .tmp 7] = some _ from by simp only [go_sem, reduceIte, reduceCtorEq, Nat.reduceLT, Nat.reduceLeDiff, Nat.reduceEqDiff, Nat.reduceAdd, Nat.reduceSub, Nat.reduceMul, Int.reduceEq, Int.reduceLT, Int.reduceLE, Int.reduceToNat, resVL, resV1, AS.den, ldT_ty]; rfl) ?_ (by first | rfl | exact setA_clo _ | simp only [AV.clo, cloL, encV_clo, Bool.and_true, iA, bA])
          try simp only [go_sem, reduceIte, reduceCtorEq, Nat.reduceLT, Nat.reduceLeDiff, Nat.reduceEqDiff, Nat.reduceAdd, Nat.reduceSub, Nat.reduceMul, Int.reduceEq, Int.reduceLT, Int.reduceLE, Int.reduceToNat, AS.den, resV_one, resV_two, resV_three, clA_nil]
          rw [setV_cross h1 h2]; exact setA_zero
        · try simp only [decide_eq_true_eq, decide_eq_false_iff_not, Bool.not_eq_true', Bool.not_eq_false'] at h31
          exfalso; simp only [decide_eq_true_eq, decide_eq_false_iff_not, Bool.not_eq_true', Bool.not_eq_false'] at *; simp_all
      ·
        refine run_condA (by simp only [evL, evC, tg, reduceIte, Nat.reduceEqDiff]; rfl) (fun h31 => ?_) (fun h31 => ?_)
        · try simp only [decide_eq_true_eq, decide_eq_false_iff_not, Bool.not_eq_true', Bool.not_eq_false'] at h31
          refine run_seq ?_
          refine run_regS [6, 7] (by decide) (fun F hF => ?_)
          simp only [go_sem, reduceIte, reduceCtorEq, Nat.reduceLT, Nat.reduceLeDiff, Nat.reduceEqDiff, Nat.reduceAdd, Nat.reduceSub, Nat.reduceMul, Int.reduceEq, Int.reduceLT, Int.reduceLE, Int.reduceToNat]
          refine hF _ ?_; clear hF F
          simp only [go_sem, reduceIte, reduceCtorEq, Nat.reduceLT, Nat.reduceLeDiff, Nat.reduceEqDiff, Nat.reduceAdd, Nat.reduceSub, Nat.reduceMul, Int.reduceEq, Int.reduceLT, Int.reduceLE, Int.reduceToNat]
          refine run_ret ?_
          refine fin_ofF (.inr rfl) [] (show resVL _ _ [.cell 6 25, .tmp 7] = some _ from by simp only [go_sem, reduceIte, reduceCtorEq, Nat.reduceLT, Nat.reduceLeDiff, Nat.reduceEqDiff, Nat.reduceAdd, Nat.reduceSub, Nat.reduceMul, Int.reduceEq, Int.reduceLT, Int.reduceLE, Int.reduceToNat, resVL, resV1, AS.den, ldT_ty]; rfl) ?_ (by first | rfl | exact setA_clo _ | simp only [AV.clo, cloL, encV_clo, Bool.and_true, iA, bA])
          try simp only [go_sem, reduceIte, reduceCtorEq, Nat.reduceLT, Nat.reduceLeDiff, Nat.reduceEqDiff, Nat.reduceAdd, Nat.reduceSub, Nat.reduceMul, Int.reduceEq, Int.reduceLT, Int.reduceLE, Int.reduceToNat, AS.den, resV_one, resV_two, resV_three, clA_nil]
          rw [setV_cross h1 h2]; exact setA_zero
        · try simp only [decide_eq_true_eq, decide_eq_false_iff_not, Bool.not_eq_true', Bool.not_eq_false'] at h31
          exfalso; simp only [decide_eq_true_eq, decide_eq_false_iff_not, Bool.not_eq_true', Bool.not_eq_false'] at *; simp_all


theorem set23 (W : World) (x : JV) : ∀ (p : List (List UInt8)) (v : JV), cntV v ≤ 2 ^ 30 → p.length < 2 ^ 62 → Pure Tryd.prog W 23 [encV v, .sl 1 (p.map AV.str) [], encV x] (setA (setV p v x))
  | [], v, _, _ => set23_nil W v x
  | s :: p, v, hc, hp => by
    have hp' : p.length < 2 ^ 62 := by simp only [List.length_cons] at hp; omega
    have ih : ∀ u, cntV u ≤ 2 ^ 30 → Pure Tryd.prog W 23 [encV u, .sl 1 (p.map AV.str) [], encV x] (setA (setV p u x)) := fun u hu => set23 W x p u hu hp'
    by_cases h1 : v.kind = 6
    · exact set23_obj W v s p x hc hp' h1 ih
    · by_cases h2 : v.kind = 5 ∧ idxOk s = true
      · exact set23_list W v s p x hc hp' h2.1 h2.2 ih
      · exact set23_cross W v s p x hc hp' h1 h2

end Go.Ab

