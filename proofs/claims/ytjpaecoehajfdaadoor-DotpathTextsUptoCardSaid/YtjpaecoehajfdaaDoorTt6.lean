/- What is proved: contracts of functions of this translation, walked; their plain meaning. No condition beyond those that each theorem names. -/
import Derived.Test.YtjpaecoehajfdaaDoorTt5
set_option linter.all false
namespace Go.Ab
open Go Go.Proofs

set_option maxRecDepth 4000

mutual
def okV : JV → Prop
  | .mk h l => h.names.length ≤ 2 ^ 50 ∧ l.length ≤ 2 ^ 50 ∧ okVs l
def okVs : List JV → Prop
  | [] => True
  | j :: l => okV j ∧ okVs l
end

theorem okV_nm {j : JV} (h : okV j) : j.names.length ≤ 2 ^ 50 := by cases j; simp only [okV] at h; exact h.1
theorem okV_ln {j : JV} (h : okV j) : j.items.length ≤ 2 ^ 50 := by cases j; simp only [okV] at h; exact h.2.1
theorem okV_names {j : JV} (h : okV j) : j.names.length < 2 ^ 62 := by have := okV_nm h; omega
theorem okV_len {j : JV} (h : okV j) : j.items.length < 2 ^ 62 := by have := okV_ln h; omega
theorem okVs_get : ∀ {l : List JV} {i : Nat} {x : JV}, okVs l → l[i]? = some x → okV x
  | [], _, _, _, h => by simp at h
  | j :: l, 0, x, h, e => by simp at e; subst e; exact h.1
  | j :: l, i + 1, x, h, e => okVs_get h.2 (by simpa using e)
theorem okV_item {j x : JV} {i : Nat} (h : okV j) (e : j.items[i]? = some x) : okV x := by
  cases j; simp only [okV] at h; exact okVs_get h.2.2 e


theorem placeL_lt (s : List UInt8) : ∀ (l : List (List UInt8)) (n i : Nat), placeL s l n i < ((n + i : Nat) : Int)
  | _, 0, i => by cases ‹List _› <;> simp only [placeL] <;> omega
  | [], n + 1, i => by simp only [placeL]; omega
  | x :: l, n + 1, i => by
    simp only [placeL]
    split
    · omega
    · have := placeL_lt s l n (i + 1); omega

theorem child_lt (j : JV) (s : List UInt8) : j.child s < j.items.length := by
  unfold JV.child
  split
  · have := placeL_lt s j.names j.mem 0; have := j.mem_items; unfold JV.place; omega
  · split
    · rename_i h; exact h.2.2
    · omega

theorem child_get {j : JV} {s : List UInt8} (h : 0 ≤ j.child s) : ∃ x, j.items[(j.child s).toNat]? = some x :=
  ⟨j.items[(j.child s).toNat]'(by have := child_lt j s; omega), by simp⟩

def getV : JV → List (List UInt8) → Option JV
  | v, [] => some v
  | v, s :: p => if v.child s < 0 then none else match v.items[(v.child s).toNat]? with | some x => getV x p | none => none

def getA : Option JV → AV
  | some x => .tup [encV x, bA true]
  | none => .tup [encV JV.zero, bA false]

theorem getV_step {v x : JV} {s : List UInt8} {p : List (List UInt8)} (h : 0 ≤ v.child s) (hx : v.items[(v.child s).toNat]? = some x) : getV v (s :: p) = getV x p := by
  rw [getV, if_neg (by omega), hx]
theorem getV_none {v : JV} {s : List UInt8} {p : List (List UInt8)} (h : v.child s < 0) : getV v (s :: p) = none := by
  rw [getV, if_pos h]



theorem getA_clo (o : Option JV) : (getA o).clo = true := by cases o <;> simp [getA, AV.clo, cloL, encV_clo, bA]
theorem call15 : callable Tryd.prog 15 = true := by kernel_rfl
theorem get15 (W : World) (v : JV) (p : List (List UInt8)) (hv : okV v) : Pure Tryd.prog W 15 [encV v, .sl 1 (p.map AV.str) []] (getA (getV v p)) := by
  refine pure_of_run Tryd.func15 rfl (by rw [Tryd.ntmps15]; simp) ?_
  rw [Tryd.ntmps15, st0_den]
  refine run_seq ?_
  refine run_regS [1, 2, 4] (by decide) (fun F hF => ?_)
  simp only [go_sem, reduceIte, reduceCtorEq, Nat.reduceLT, Nat.reduceLeDiff, Nat.reduceEqDiff, Nat.reduceAdd, Nat.reduceSub, Nat.reduceMul, Int.reduceEq, Int.reduceLT, Int.reduceLE, Int.reduceToNat]
  refine hF _ ?_; clear hF F
  simp only [go_sem, reduceIte, reduceCtorEq, Nat.reduceLT, Nat.reduceLeDiff, Nat.reduceEqDiff, Nat.reduceAdd, Nat.reduceSub, Nat.reduceMul, Int.reduceEq, Int.reduceLT, Int.reduceLE, Int.reduceToNat]
  refine run_scope (fun _ _ h => h) ?_
  refine run_seq ?_
  refine run_label ?_
  refine run_seq ?_
  refine run_block ?_
  refine run_loopA (fun i : JV × List (List UInt8) => ⟨[(1, .sl 1 (i.2.map AV.str) []), (2, .gp 2 0), (4, .gp 4 0)], [(2, .box (encV i.1) .own), (4, .box (.agg [.val (.int .i64 0), .val (.int .i64 0), .str [], .val (.slice none 0 0), .val (.slice none 0 0)]) .own)]⟩) (fun i => okV i.1 ∧ getV i.1 i.2 = getV v p) (fun i => i.2.length) (v, p) (Sub.of_eq rfl) ⟨hv, rfl⟩ ?_
  rintro ⟨u, q⟩ ⟨hu, hq⟩
  simp only at hu hq
  refine run_seq ?_
  refine run_seq ?_
  refine run_regS [1, 2, 4, 9] (by decide) (fun F hF => ?_)
  simp only [go_sem, reduceIte, reduceCtorEq, Nat.reduceLT, Nat.reduceLeDiff, Nat.reduceEqDiff, Nat.reduceAdd, Nat.reduceSub, Nat.reduceMul, Int.reduceEq, Int.reduceLT, Int.reduceLE, Int.reduceToNat]
  refine hF _ ?_; clear hF F
  simp only [go_sem, reduceIte, reduceCtorEq, Nat.reduceLT, Nat.reduceLeDiff, Nat.reduceEqDiff, Nat.reduceAdd, Nat.reduceSub, Nat.reduceMul, Int.reduceEq, Int.reduceLT, Int.reduceLE, Int.reduceToNat]
  refine run_condA (by simp only [evL, evC, tg, reduceIte, Nat.reduceEqDiff]; rfl) (fun h9 => ?_) (fun h9 => ?_)
  · try simp only [decide_eq_true_eq, decide_eq_false_iff_not, Bool.not_eq_true', Bool.not_eq_false'] at h9
    obtain ⟨s, q, rfl⟩ : ∃ s r, q = s :: r := by cases q with
    | nil => simp at h9
    | cons s r => exact ⟨s, r, rfl⟩
    refine run_skip ?_
    refine run_block ?_
    refine run_seq ?_
    refine run_regD [1, 2, 4, 6] (by decide) mixed0 (by decide) (fun F hF => ?_)
    simp only [go_sem, reduceIte, reduceCtorEq, Nat.reduceLT, Nat.reduceLeDiff, Nat.reduceEqDiff, Nat.reduceAdd, Nat.reduceSub, Nat.reduceMul, Int.reduceEq, Int.reduceLT, Int.reduceLE, Int.reduceToNat, le_add0, take_map_len, drop_map_len, ge0_len1, one_le_len1, Int.toNat_natCast, Int.reduceToNat, Int.toNat_one, Int.toNat_zero, Int.le_refl]
    refine aCall_flat0 (child46 W u s (okV_names hu)) call46 (.cons (.refl _) (.cons (.refl _) .nil)) (by simp only [cloL, encV_clo, AV.clo, Bool.and_true]) rfl ?_
    simp only [go_sem, reduceIte, reduceCtorEq, Nat.reduceLT, Nat.reduceLeDiff, Nat.reduceEqDiff, Nat.reduceAdd, Nat.reduceSub, Nat.reduceMul, Int.reduceEq, Int.reduceLT, Int.reduceLE, Int.reduceToNat, le_add0, take_map_len, drop_map_len, ge0_len1, one_le_len1, Int.toNat_natCast, Int.reduceToNat, Int.toNat_one, Int.toNat_zero, Int.le_refl]
    refine ⟨by decide, ?_⟩
    refine hF _ ?_; clear hF F
    simp only [go_sem, reduceIte, reduceCtorEq, Nat.reduceLT, Nat.reduceLeDiff, Nat.reduceEqDiff, Nat.reduceAdd, Nat.reduceSub, Nat.reduceMul, Int.reduceEq, Int.reduceLT, Int.reduceLE, Int.reduceToNat, le_add0, take_map_len, drop_map_len, ge0_len1, one_le_len1, Int.toNat_natCast, Int.reduceToNat, Int.toNat_one, Int.toNat_zero, Int.le_refl]
    refine run_seq ?_
    refine run_seq ?_
    refine run_regS [1, 2, 4, 6, 16] (by decide) (fun F hF => ?_)
    simp only [go_sem, reduceIte, reduceCtorEq, Nat.reduceLT, Nat.reduceLeDiff, Nat.reduceEqDiff, Nat.reduceAdd, Nat.reduceSub, Nat.reduceMul, Int.reduceEq, Int.reduceLT, Int.reduceLE, Int.reduceToNat]
    refine hF _ ?_; clear hF F
    simp only [go_sem, reduceIte, reduceCtorEq, Nat.reduceLT, Nat.reduceLeDiff, Nat.reduceEqDiff, Nat.reduceAdd, Nat.reduceSub, Nat.reduceMul, Int.reduceEq, Int.reduceLT, Int.reduceLE, Int.reduceToNat]
    refine run_condA (by simp only [evL, evC, tg, reduceIte, Nat.reduceEqDiff]; rfl) (fun h16 => ?_) (fun h16 => ?_)
    · try simp only [decide_eq_true_eq, decide_eq_false_iff_not, Bool.not_eq_true', Bool.not_eq_false'] at h16
      refine run_exit (k' := _) rfl ?_
      refine run_seq ?_
      refine run_seq ?_
      refine run_regS [2, 4, 26] (by decide) (fun F hF => ?_)
      simp only [go_sem, reduceIte, reduceCtorEq, Nat.reduceLT, Nat.reduceLeDiff, Nat.reduceEqDiff, Nat.reduceAdd, Nat.reduceSub, Nat.reduceMul, Int.reduceEq, Int.reduceLT, Int.reduceLE, Int.reduceToNat]
      refine hF _ ?_; clear hF F
      simp only [go_sem, reduceIte, reduceCtorEq, Nat.reduceLT, Nat.reduceLeDiff, Nat.reduceEqDiff, Nat.reduceAdd, Nat.reduceSub, Nat.reduceMul, Int.reduceEq, Int.reduceLT, Int.reduceLE, Int.reduceToNat]
      refine run_condA (by simp only [evL, evC, tg, reduceIte, Nat.reduceEqDiff]; rfl) (fun h26 => ?_) (fun h26 => ?_)
      · try simp only [decide_eq_true_eq, decide_eq_false_iff_not, Bool.not_eq_true', Bool.not_eq_false'] at h26
        refine run_seq ?_
        refine run_regS [4, 5] (by decide) (fun F hF => ?_)
        simp only [go_sem, reduceIte, reduceCtorEq, Nat.reduceLT, Nat.reduceLeDiff, Nat.reduceEqDiff, Nat.reduceAdd, Nat.reduceSub, Nat.reduceMul, Int.reduceEq, Int.reduceLT, Int.reduceLE, Int.reduceToNat]
        refine hF _ ?_; clear hF F
        simp only [go_sem, reduceIte, reduceCtorEq, Nat.reduceLT, Nat.reduceLeDiff, Nat.reduceEqDiff, Nat.reduceAdd, Nat.reduceSub, Nat.reduceMul, Int.reduceEq, Int.reduceLT, Int.reduceLE, Int.reduceToNat]
        refine run_ret ?_
        refine fin_ofF (.inr rfl) [] (show resVL _ _ [.cell 4 25, .tmp 5] = some _ from by simp only [go_sem, reduceIte, reduceCtorEq, Nat.reduceLT, Nat.reduceLeDiff, Nat.reduceEqDiff, Nat.reduceAdd, Nat.reduceSub, Nat.reduceMul, Int.reduceEq, Int.reduceLT, Int.reduceLE, Int.reduceToNat, resVL, resV1, AS.den, ldT_ty]; rfl) ?_ (by first | rfl | exact getA_clo _ | simp only [AV.clo, cloL, encV_clo, Bool.and_true, iA, bA])
        try simp only [go_sem, reduceIte, reduceCtorEq, Nat.reduceLT, Nat.reduceLeDiff, Nat.reduceEqDiff, Nat.reduceAdd, Nat.reduceSub, Nat.reduceMul, Int.reduceEq, Int.reduceLT, Int.reduceLE, Int.reduceToNat, AS.den, resV_one, resV_two, resV_three, clA_nil]
        first
        | (exfalso; (try simp only [List.length_cons] at *); omega)
        | (rw [← hq, getV_none (by assumption)]; exact .tup (.cons le_zero (.cons (.refl _) .nil)))
        | (have hz : q = [] := by cases q with
            | nil => rfl
            | cons s r => exfalso; (try simp only [List.length_cons] at *); omega
           subst hz; rw [← hq]; exact .refl _)
      · try simp only [decide_eq_true_eq, decide_eq_false_iff_not, Bool.not_eq_true', Bool.not_eq_false'] at h26
        refine run_skip ?_
        refine run_seq ?_
        refine run_regS [4, 5] (by decide) (fun F hF => ?_)
        simp only [go_sem, reduceIte, reduceCtorEq, Nat.reduceLT, Nat.reduceLeDiff, Nat.reduceEqDiff, Nat.reduceAdd, Nat.reduceSub, Nat.reduceMul, Int.reduceEq, Int.reduceLT, Int.reduceLE, Int.reduceToNat]
        refine hF _ ?_; clear hF F
        simp only [go_sem, reduceIte, reduceCtorEq, Nat.reduceLT, Nat.reduceLeDiff, Nat.reduceEqDiff, Nat.reduceAdd, Nat.reduceSub, Nat.reduceMul, Int.reduceEq, Int.reduceLT, Int.reduceLE, Int.reduceToNat]
        refine run_ret ?_
        refine fin_ofF (.inr rfl) [] (show resVL _ _ [.cell 4 25, .tmp 5] = some _ from by simp only [go_sem, reduceIte, reduceCtorEq, Nat.reduceLT, Nat.reduceLeDiff, Nat.reduceEqDiff, Nat.reduceAdd, Nat.reduceSub, Nat.reduceMul, Int.reduceEq, Int.reduceLT, Int.reduceLE, Int.reduceToNat, resVL, resV1, AS.den, ldT_ty]; rfl) ?_ (by first | rfl | exact getA_clo _ | simp only [AV.clo, cloL, encV_clo, Bool.and_true, iA, bA])
        try simp only [go_sem, reduceIte, reduceCtorEq, Nat.reduceLT, Nat.reduceLeDiff, Nat.reduceEqDiff, Nat.reduceAdd, Nat.reduceSub, Nat.reduceMul, Int.reduceEq, Int.reduceLT, Int.reduceLE, Int.reduceToNat, AS.den, resV_one, resV_two, resV_three, clA_nil]
        first
        | (exfalso; (try simp only [List.length_cons] at *); omega)
        | (rw [← hq, getV_none (by assumption)]; exact .tup (.cons le_zero (.cons (.refl _) .nil)))
        | (have hz : q = [] := by cases q with
            | nil => rfl
            | cons s r => exfalso; (try simp only [List.length_cons] at *); omega
           subst hz; rw [← hq]; exact .refl _)
    · try simp only [decide_eq_true_eq, decide_eq_false_iff_not, Bool.not_eq_true', Bool.not_eq_false'] at h16
      obtain ⟨x, hx⟩ := child_get (j := u) (s := s) (by omega)
      have h0 : (0 ≤ u.child s) = True := by simp only [eq_iff_iff, iff_true]; omega
      refine run_skip ?_
      refine run_regD [1, 2, 4] (by decide) mixed0 (by decide) (fun F hF => ?_)
      simp only [go_sem, reduceIte, reduceCtorEq, Nat.reduceLT, Nat.reduceLeDiff, Nat.reduceEqDiff, Nat.reduceAdd, Nat.reduceSub, Nat.reduceMul, Int.reduceEq, Int.reduceLT, Int.reduceLE, Int.reduceToNat, hx, h0, List.getElem?_map, Option.map_some, le_add0, take_map_len, drop_map_len, ge0_len1, one_le_len1, Int.toNat_natCast, Int.reduceToNat, Int.toNat_one, Int.toNat_zero, Int.le_refl]
      refine ⟨by decide, ?_⟩
      refine hF _ ?_; clear hF F
      simp only [go_sem, reduceIte, reduceCtorEq, Nat.reduceLT, Nat.reduceLeDiff, Nat.reduceEqDiff, Nat.reduceAdd, Nat.reduceSub, Nat.reduceMul, Int.reduceEq, Int.reduceLT, Int.reduceLE, Int.reduceToNat, hx, h0, List.getElem?_map, Option.map_some, le_add0, take_map_len, drop_map_len, ge0_len1, one_le_len1, Int.toNat_natCast, Int.reduceToNat, Int.toNat_one, Int.toNat_zero, Int.le_refl]
      refine run_blk ?_
      refine run_chk ?_
      exact ⟨(x, q), ⟨okV_item hu hx, by rw [← hq]; exact (getV_step (by omega) hx).symm⟩, by simp, Sub.of_eq rfl⟩
  · try simp only [decide_eq_true_eq, decide_eq_false_iff_not, Bool.not_eq_true', Bool.not_eq_false'] at h9
    refine run_exit (k' := _) rfl ?_
    refine run_seq ?_
    refine run_seq ?_
    refine run_regS [2, 4, 26] (by decide) (fun F hF => ?_)
    simp only [go_sem, reduceIte, reduceCtorEq, Nat.reduceLT, Nat.reduceLeDiff, Nat.reduceEqDiff, Nat.reduceAdd, Nat.reduceSub, Nat.reduceMul, Int.reduceEq, Int.reduceLT, Int.reduceLE, Int.reduceToNat]
    refine hF _ ?_; clear hF F
    simp only [go_sem, reduceIte, reduceCtorEq, Nat.reduceLT, Nat.reduceLeDiff, Nat.reduceEqDiff, Nat.reduceAdd, Nat.reduceSub, Nat.reduceMul, Int.reduceEq, Int.reduceLT, Int.reduceLE, Int.reduceToNat]
    refine run_condA (by simp only [evL, evC, tg, reduceIte, Nat.reduceEqDiff]; rfl) (fun h26 => ?_) (fun h26 => ?_)
    · try simp only [decide_eq_true_eq, decide_eq_false_iff_not, Bool.not_eq_true', Bool.not_eq_false'] at h26
      refine run_seq ?_
      refine run_regS [4, 5] (by decide) (fun F hF => ?_)
      simp only [go_sem, reduceIte, reduceCtorEq, Nat.reduceLT, Nat.reduceLeDiff, Nat.reduceEqDiff, Nat.reduceAdd, Nat.reduceSub, Nat.reduceMul, Int.reduceEq, Int.reduceLT, Int.reduceLE, Int.reduceToNat]
      refine hF _ ?_; clear hF F
      simp only [go_sem, reduceIte, reduceCtorEq, Nat.reduceLT, Nat.reduceLeDiff, Nat.reduceEqDiff, Nat.reduceAdd, Nat.reduceSub, Nat.reduceMul, Int.reduceEq, Int.reduceLT, Int.reduceLE, Int.reduceToNat]
      refine run_ret ?_
      refine fin_ofF (.inr rfl) [] (show resVL _ _ [.cell 4 25, .tmp 5] = some _ from by simp only [go_sem, reduceIte, reduceCtorEq, Nat.reduceLT, Nat.reduceLeDiff, Nat.reduceEqDiff, Nat.reduceAdd, Nat.reduceSub, Nat.reduceMul, Int.reduceEq, Int.reduceLT, Int.reduceLE, Int.reduceToNat, resVL, resV1, AS.den, ldT_ty]; rfl) ?_ (by first | rfl | exact getA_clo _ | simp only [AV.clo, cloL, encV_clo, Bool.and_true, iA, bA])
      try simp only [go_sem, reduceIte, reduceCtorEq, Nat.reduceLT, Nat.reduceLeDiff, Nat.reduceEqDiff, Nat.reduceAdd, Nat.reduceSub, Nat.reduceMul, Int.reduceEq, Int.reduceLT, Int.reduceLE, Int.reduceToNat, AS.den, resV_one, resV_two, resV_three, clA_nil]
      first
      | (exfalso; (try simp only [List.length_cons] at *); omega)
      | (rw [← hq, getV_none (by assumption)]; exact .tup (.cons le_zero (.cons (.refl _) .nil)))
      | (have hz : q = [] := by cases q with
          | nil => rfl
          | cons s r => exfalso; (try simp only [List.length_cons] at *); omega
         subst hz; rw [← hq]; exact .refl _)
    · try simp only [decide_eq_true_eq, decide_eq_false_iff_not, Bool.not_eq_true', Bool.not_eq_false'] at h26
      refine run_skip ?_
      refine run_seq ?_
      refine run_regS [4, 5] (by decide) (fun F hF => ?_)
      simp only [go_sem, reduceIte, reduceCtorEq, Nat.reduceLT, Nat.reduceLeDiff, Nat.reduceEqDiff, Nat.reduceAdd, Nat.reduceSub, Nat.reduceMul, Int.reduceEq, Int.reduceLT, Int.reduceLE, Int.reduceToNat]
      refine hF _ ?_; clear hF F
      simp only [go_sem, reduceIte, reduceCtorEq, Nat.reduceLT, Nat.reduceLeDiff, Nat.reduceEqDiff, Nat.reduceAdd, Nat.reduceSub, Nat.reduceMul, Int.reduceEq, Int.reduceLT, Int.reduceLE, Int.reduceToNat]
      refine run_ret ?_
      refine fin_ofF (.inr rfl) [] (show resVL _ _ [.cell 4 25, .tmp 5] = some _ from by simp only [go_sem, reduceIte, reduceCtorEq, Nat.reduceLT, Nat.reduceLeDiff, Nat.reduceEqDiff, Nat.reduceAdd, Nat.reduceSub, Nat.reduceMul, Int.reduceEq, Int.reduceLT, Int.reduceLE, Int.reduceToNat, resVL, resV1, AS.den, ldT_ty]; rfl) ?_ (by first | rfl | exact getA_clo _ | simp only [AV.clo, cloL, encV_clo, Bool.and_true, iA, bA])
      try simp only [go_sem, reduceIte, reduceCtorEq, Nat.reduceLT, Nat.reduceLeDiff, Nat.reduceEqDiff, Nat.reduceAdd, Nat.reduceSub, Nat.reduceMul, Int.reduceEq, Int.reduceLT, Int.reduceLE, Int.reduceToNat, AS.den, resV_one, resV_two, resV_three, clA_nil]
      first
      | (exfalso; (try simp only [List.length_cons] at *); omega)
      | (rw [← hq, getV_none (by assumption)]; exact .tup (.cons le_zero (.cons (.refl _) .nil)))
      | (have hz : q = [] := by cases q with
          | nil => rfl
          | cons s r => exfalso; (try simp only [List.length_cons] at *); omega
         subst hz; rw [← hq]; exact .refl _)

end Go.Ab

