/- What is proved: contracts of functions of this translation, walked; their plain meaning. No condition beyond those that each theorem names. -/
import Derived.Test.YtjpaecoehajfdaaDoorTt6
set_option linter.all false
namespace Go.Ab
open Go Go.Proofs

set_option maxRecDepth 4000

mutual
def sizeV : JV → Nat
  | .mk _ l => 1 + sizeVs l
def sizeVs : List JV → Nat
  | [] => 0
  | j :: l => sizeV j + sizeVs l
end

theorem sizeV_eq (v : JV) : sizeV v = 1 + sizeVs v.items := by cases v; simp only [sizeV, JV.items]
theorem sizeVs_get : ∀ {l : List JV} {i : Nat} {x : JV}, l[i]? = some x → sizeV x ≤ sizeVs l
  | [], _, _, h => by simp at h
  | j :: l, 0, x, e => by simp at e; subst e; simp only [sizeVs]; omega
  | j :: l, i + 1, x, e => by have := sizeVs_get (l := l) (i := i) (x := x) (by simpa using e); simp only [sizeVs]; omega
theorem sizeV_item {v x : JV} {i : Nat} (h : v.items[i]? = some x) : sizeV x < sizeV v := by
  have := sizeVs_get h; rw [sizeV_eq v]; omega

def oneV (v : JV) (s : List UInt8) (f : JV → List JV) : List JV :=
  if v.child s < 0 then [] else match v.items[(v.child s).toNat]? with | some x => f x | none => []

def allV : JV → List (List UInt8) → List JV
  | v, [] => [v]
  | v, s :: p => if v.kind = 5 ∧ idxOk s = false then v.items.flatMap (fun x => if x.kind = 6 then oneV x s (fun y => allV y p) else []) else oneV v s (fun y => allV y p)

def pickV (s : List UInt8) (p : List (List UInt8)) (x : JV) : List JV := if x.kind = 6 then oneV x s (fun y => allV y p) else []

theorem allV_list {v : JV} {s : List UInt8} {p : List (List UInt8)} (h : v.kind = 5) (h1 : idxOk s = false) : allV v (s :: p) = v.items.flatMap (pickV s p) := by
  rw [allV, if_pos ⟨h, h1⟩]; rfl
theorem allV_one {v : JV} {s : List UInt8} {p : List (List UInt8)} (h : ¬ (v.kind = 5 ∧ idxOk s = false)) : allV v (s :: p) = oneV v s (fun y => allV y p) := by
  rw [allV, if_neg h]
theorem allV_obj {v : JV} {s : List UInt8} {p : List (List UInt8)} (h : v.kind = 6) : allV v (s :: p) = pickV s p v := by
  rw [allV_one (by omega), pickV, if_pos h]
theorem pickV_not {v : JV} {s : List UInt8} {p : List (List UInt8)} (h : ¬ v.kind = 6) : pickV s p v = [] := by rw [pickV, if_neg h]

theorem flatMap_len (f : JV → List JV) (hf : ∀ x, (f x).length ≤ sizeV x) : ∀ l : List JV, (l.flatMap f).length ≤ sizeVs l
  | [] => by simp
  | x :: l => by
    have := hf x; have := flatMap_len f hf l
    simp only [List.flatMap_cons, List.length_append, sizeVs]; omega

theorem oneV_len (v : JV) (s : List UInt8) (f : JV → List JV) (hf : ∀ x, (f x).length ≤ sizeV x) : (oneV v s f).length ≤ sizeV v := by
  unfold oneV
  split
  · simp
  · split
    · rename_i x hx; have := hf x; have := sizeV_item hx; omega
    · simp

theorem allV_len : ∀ (p : List (List UInt8)) (v : JV), (allV v p).length ≤ sizeV v
  | [], v => by rw [allV, sizeV_eq]; simp
  | s :: p, v => by
    rw [allV]
    split
    · have := flatMap_len (pickV s p) (fun x => by
        unfold pickV; split
        · exact oneV_len _ _ _ (allV_len p)
        · simp) v.items
      rw [sizeV_eq]; unfold pickV at this; omega
    · exact oneV_len _ _ _ (allV_len p)

theorem pickV_len (s : List UInt8) (p : List (List UInt8)) (x : JV) : (pickV s p x).length ≤ sizeV x := by
  unfold pickV; split
  · exact oneV_len _ _ _ (allV_len p)
  · simp

def accV (v : JV) (s : List UInt8) (p : List (List UInt8)) (i : Nat) : List JV := (v.items.take i).flatMap (pickV s p)

theorem sizeVs_take : ∀ (l : List JV) (i : Nat), sizeVs (l.take i) ≤ sizeVs l
  | [], i => by simp
  | x :: l, 0 => by simp [sizeVs]
  | x :: l, i + 1 => by have := sizeVs_take l i; simp only [List.take_succ_cons, sizeVs]; omega

theorem accV_len (v : JV) (s : List UInt8) (p : List (List UInt8)) (i : Nat) : (accV v s p i).length ≤ sizeV v := by
  have := flatMap_len (pickV s p) (pickV_len s p) (v.items.take i)
  have := sizeVs_take v.items i
  rw [sizeV_eq]; unfold accV; omega

theorem accV_succ {v x : JV} {s : List UInt8} {p : List (List UInt8)} {i : Nat} (h : v.items[i]? = some x) : accV v s p (i + 1) = accV v s p i ++ pickV s p x := by
  unfold accV; rw [take_succ_get h, List.flatMap_append]; simp

def lsA (l : List JV) : AV := .sl 5 (l.map encV) []
theorem lsA_clo (l : List JV) : (lsA l).clo = true := rfl

def stepsV (u : JV) (q : List (List UInt8)) : Nat := 2 * q.length + (if u.kind = 6 then 0 else 1)

theorem call17 : callable Tryd.prog 17 = true := by kernel_rfl
theorem all17_step (W : World) (v : JV) (p : List (List UInt8)) (hv : okV v) (hsz : sizeV v ≤ 2 ^ 30) (ih : ∀ u q, stepsV u q < stepsV v p → okV u → sizeV u ≤ 2 ^ 30 → Pure Tryd.prog W 17 [encV u, .sl 1 (q.map AV.str) []] (lsA (allV u q))) : Pure Tryd.prog W 17 [encV v, .sl 1 (p.map AV.str) []] (lsA (allV v p)) := by
  refine pure_of_run Tryd.func17 rfl (by rw [Tryd.ntmps17]; simp) ?_
  rw [Tryd.ntmps17, st0_den]
  refine run_seq ?_
  refine run_regS [1, 2] (by decide) (fun F hF => ?_)
  simp only [go_sem, reduceIte, reduceCtorEq, Nat.reduceLT, Nat.reduceLeDiff, Nat.reduceEqDiff, Nat.reduceAdd, Nat.reduceSub, Nat.reduceMul, Int.reduceEq, Int.reduceLT, Int.reduceLE, Int.reduceToNat]
  refine hF _ ?_; clear hF F
  simp only [go_sem, reduceIte, reduceCtorEq, Nat.reduceLT, Nat.reduceLeDiff, Nat.reduceEqDiff, Nat.reduceAdd, Nat.reduceSub, Nat.reduceMul, Int.reduceEq, Int.reduceLT, Int.reduceLE, Int.reduceToNat]
  refine run_seq ?_
  refine run_seq ?_
  refine run_regS [1, 2, 13] (by decide) (fun F hF => ?_)
  simp only [go_sem, reduceIte, reduceCtorEq, Nat.reduceLT, Nat.reduceLeDiff, Nat.reduceEqDiff, Nat.reduceAdd, Nat.reduceSub, Nat.reduceMul, Int.reduceEq, Int.reduceLT, Int.reduceLE, Int.reduceToNat]
  refine hF _ ?_; clear hF F
  simp only [go_sem, reduceIte, reduceCtorEq, Nat.reduceLT, Nat.reduceLeDiff, Nat.reduceEqDiff, Nat.reduceAdd, Nat.reduceSub, Nat.reduceMul, Int.reduceEq, Int.reduceLT, Int.reduceLE, Int.reduceToNat]
  refine run_condA (by simp only [evL, evC, tg, reduceIte, Nat.reduceEqDiff]; rfl) (fun h13 => ?_) (fun h13 => ?_)
  · try simp only [decide_eq_true_eq, decide_eq_false_iff_not, Bool.not_eq_true', Bool.not_eq_false'] at h13
    have hz : p = [] := by cases p with
    | nil => rfl
    | cons s r => exfalso; simp only [List.length_cons] at h13; omega
    refine run_seq ?_
    refine run_regS [4] (by decide) (fun F hF => ?_)
    simp only [go_sem, reduceIte, reduceCtorEq, Nat.reduceLT, Nat.reduceLeDiff, Nat.reduceEqDiff, Nat.reduceAdd, Nat.reduceSub, Nat.reduceMul, Int.reduceEq, Int.reduceLT, Int.reduceLE, Int.reduceToNat]
    refine hF _ ?_; clear hF F
    simp only [go_sem, reduceIte, reduceCtorEq, Nat.reduceLT, Nat.reduceLeDiff, Nat.reduceEqDiff, Nat.reduceAdd, Nat.reduceSub, Nat.reduceMul, Int.reduceEq, Int.reduceLT, Int.reduceLE, Int.reduceToNat]
    refine run_ret ?_
    refine fin_of (.inr rfl) [(15, .arr 25 5 [encV v] .own)] (by intro p hp; simp only [List.mem_singleton] at hp; subst hp; exact ⟨rfl, by simp [Frzable]⟩) rfl ?_ (lsA_clo _)
    try simp only [AS.den, tg, reduceIte, Nat.reduceEqDiff, resV_one, clA, lk, clA_nil, List.length_map, List.length_cons, List.length_nil, Nat.zero_add, Nat.le_refl, List.drop_zero, take_map_len, List.take_succ_cons, List.take_zero]
    try simp only [decide_eq_true_eq, decide_eq_false_iff_not, Bool.not_eq_true', Bool.not_eq_false'] at *
    first
    | (subst hz; exact .refl _)
    | (rw [allV_list (of_decide_eq_true (by simpa using hg0)) h29]; refine Le.of_eq ?_; unfold accV; rw [List.take_of_length_le (by omega)]; rfl)
    | (rw [allV_one (by rintro ⟨q1, q2⟩; simp_all), oneV, if_pos (by assumption)]; exact .nil 5)
    | (rw [allV_one (by rintro ⟨q1, q2⟩; simp_all), oneV, if_neg (by assumption), hx]; exact .refl (lsA _))
  · try simp only [decide_eq_true_eq, decide_eq_false_iff_not, Bool.not_eq_true', Bool.not_eq_false'] at h13
    obtain ⟨s, q, rfl⟩ : ∃ s r, p = s :: r := by cases p with
    | nil => simp at h13
    | cons s r => exact ⟨s, r, rfl⟩
    refine run_skip ?_
    refine run_seq ?_
    refine run_regS [1, 2, 6] (by decide) (fun F hF => ?_)
    simp only [go_sem, reduceIte, reduceCtorEq, Nat.reduceLT, Nat.reduceLeDiff, Nat.reduceEqDiff, Nat.reduceAdd, Nat.reduceSub, Nat.reduceMul, Int.reduceEq, Int.reduceLT, Int.reduceLE, Int.reduceToNat, idxA, le_add0, take_map_len, drop_map_len, ge0_len1, one_le_len1, Int.toNat_natCast, Int.reduceToNat, Int.toNat_one, Int.toNat_zero, Int.le_refl, Int.natCast_nonneg, List.drop_zero]
    refine aCall_pure0 (index44 W s) call44 (.cons (.refl _) .nil) rfl ?_
    simp only [go_sem, reduceIte, reduceCtorEq, Nat.reduceLT, Nat.reduceLeDiff, Nat.reduceEqDiff, Nat.reduceAdd, Nat.reduceSub, Nat.reduceMul, Int.reduceEq, Int.reduceLT, Int.reduceLE, Int.reduceToNat, idxA, le_add0, take_map_len, drop_map_len, ge0_len1, one_le_len1, Int.toNat_natCast, Int.reduceToNat, Int.toNat_one, Int.toNat_zero, Int.le_refl, Int.natCast_nonneg, List.drop_zero]
    refine hF _ ?_; clear hF F
    simp only [go_sem, reduceIte, reduceCtorEq, Nat.reduceLT, Nat.reduceLeDiff, Nat.reduceEqDiff, Nat.reduceAdd, Nat.reduceSub, Nat.reduceMul, Int.reduceEq, Int.reduceLT, Int.reduceLE, Int.reduceToNat, idxA, le_add0, take_map_len, drop_map_len, ge0_len1, one_le_len1, Int.toNat_natCast, Int.reduceToNat, Int.toNat_one, Int.toNat_zero, Int.le_refl, Int.natCast_nonneg, List.drop_zero]
    refine run_seq ?_
    refine run_seq ?_
    refine run_regS [1, 2, 29] (by decide) (fun F hF => ?_)
    simp only [go_sem, reduceIte, reduceCtorEq, Nat.reduceLT, Nat.reduceLeDiff, Nat.reduceEqDiff, Nat.reduceAdd, Nat.reduceSub, Nat.reduceMul, Int.reduceEq, Int.reduceLT, Int.reduceLE, Int.reduceToNat]
    all_goals (try (refine aB_split (fun hg0 => ?_) (fun hg0 => ?_) <;> simp only [go_sem, reduceIte, reduceCtorEq, Nat.reduceLT, Nat.reduceLeDiff, Nat.reduceEqDiff, Nat.reduceAdd, Nat.reduceSub, Nat.reduceMul, Int.reduceEq, Int.reduceLT, Int.reduceLE, Int.reduceToNat, hg0]))
    all_goals (refine hF _ ?_; clear hF F; simp only [go_sem, reduceIte, reduceCtorEq, Nat.reduceLT, Nat.reduceLeDiff, Nat.reduceEqDiff, Nat.reduceAdd, Nat.reduceSub, Nat.reduceMul, Int.reduceEq, Int.reduceLT, Int.reduceLE, Int.reduceToNat])
    ·
      refine run_condA (by simp only [evL, evC, tg, reduceIte, Nat.reduceEqDiff]; rfl) (fun h29 => ?_) (fun h29 => ?_)
      · try simp only [decide_eq_true_eq, decide_eq_false_iff_not, Bool.not_eq_true', Bool.not_eq_false'] at h29
        first
        | exact absurd h29 (by decide)
        | (
          refine run_seq ?_
          refine run_regS [1, 2, 7] (by decide) (fun F hF => ?_)
          simp only [go_sem, reduceIte, reduceCtorEq, Nat.reduceLT, Nat.reduceLeDiff, Nat.reduceEqDiff, Nat.reduceAdd, Nat.reduceSub, Nat.reduceMul, Int.reduceEq, Int.reduceLT, Int.reduceLE, Int.reduceToNat]
          refine hF _ ?_; clear hF F
          simp only [go_sem, reduceIte, reduceCtorEq, Nat.reduceLT, Nat.reduceLeDiff, Nat.reduceEqDiff, Nat.reduceAdd, Nat.reduceSub, Nat.reduceMul, Int.reduceEq, Int.reduceLT, Int.reduceLE, Int.reduceToNat]
          refine run_seq ?_
          refine run_seq ?_
          refine run_regS [1, 7, 31, 32, 33] (by decide) (fun F hF => ?_)
          simp only [go_sem, reduceIte, reduceCtorEq, Nat.reduceLT, Nat.reduceLeDiff, Nat.reduceEqDiff, Nat.reduceAdd, Nat.reduceSub, Nat.reduceMul, Int.reduceEq, Int.reduceLT, Int.reduceLE, Int.reduceToNat]
          refine hF _ ?_; clear hF F
          simp only [go_sem, reduceIte, reduceCtorEq, Nat.reduceLT, Nat.reduceLeDiff, Nat.reduceEqDiff, Nat.reduceAdd, Nat.reduceSub, Nat.reduceMul, Int.reduceEq, Int.reduceLT, Int.reduceLE, Int.reduceToNat]
          refine run_block ?_
          refine run_loopA (fun i : Nat => ⟨[(1, .sl 1 ((s :: q).map AV.str) []), (7, .gs 44 0 (accV v s q i).length), (31, .sl 5 (v.items.map encV) []), (32, iA v.items.length), (33, iA i)], [(44, .arr 25 5 ((accV v s q i).map encV) .own)]⟩) (fun i => i ≤ v.items.length) (fun i => v.items.length - i) 0 (sub_phantomA 7 44 5 25 rfl (by omega) rfl) (by omega) (fun i hi => ?_)
          refine run_seq ?_
          refine run_regS [1, 7, 31, 32, 33, 34] (by decide) (fun F hF => ?_)
          simp only [go_sem, reduceIte, reduceCtorEq, Nat.reduceLT, Nat.reduceLeDiff, Nat.reduceEqDiff, Nat.reduceAdd, Nat.reduceSub, Nat.reduceMul, Int.reduceEq, Int.reduceLT, Int.reduceLE, Int.reduceToNat]
          refine hF _ ?_; clear hF F
          simp only [go_sem, reduceIte, reduceCtorEq, Nat.reduceLT, Nat.reduceLeDiff, Nat.reduceEqDiff, Nat.reduceAdd, Nat.reduceSub, Nat.reduceMul, Int.reduceEq, Int.reduceLT, Int.reduceLE, Int.reduceToNat]
          refine run_seq ?_
          refine run_condA (by simp only [evL, evC, tg, reduceIte, Nat.reduceEqDiff]; rfl) (fun h34 => ?_) (fun h34 => ?_)
          · try simp only [decide_eq_true_eq, decide_eq_false_iff_not, Bool.not_eq_true', Bool.not_eq_false'] at h34
            obtain ⟨x, hx⟩ : ∃ x, v.items[i]? = some x := ⟨v.items[i]'(by omega), by simp⟩
            have hk : v.kind = 5 := of_decide_eq_true hg0
            refine run_skip ?_
            refine run_seq ?_
            refine run_block ?_
            refine run_seq ?_
            refine run_regS [1, 7, 9, 31, 32, 33] (by decide) (fun F hF => ?_)
            simp only [go_sem, reduceIte, reduceCtorEq, Nat.reduceLT, Nat.reduceLeDiff, Nat.reduceEqDiff, Nat.reduceAdd, Nat.reduceSub, Nat.reduceMul, Int.reduceEq, Int.reduceLT, Int.reduceLE, Int.reduceToNat, hx, List.getElem?_map, Option.map_some, le_add0, take_map_len, drop_map_len, ge0_len1, one_le_len1, Int.toNat_natCast, Int.reduceToNat, Int.toNat_one, Int.toNat_zero, Int.le_refl, Int.natCast_nonneg, List.drop_zero]
            refine hF _ ?_; clear hF F
            simp only [go_sem, reduceIte, reduceCtorEq, Nat.reduceLT, Nat.reduceLeDiff, Nat.reduceEqDiff, Nat.reduceAdd, Nat.reduceSub, Nat.reduceMul, Int.reduceEq, Int.reduceLT, Int.reduceLE, Int.reduceToNat, hx, List.getElem?_map, Option.map_some, le_add0, take_map_len, drop_map_len, ge0_len1, one_le_len1, Int.toNat_natCast, Int.reduceToNat, Int.toNat_one, Int.toNat_zero, Int.le_refl, Int.natCast_nonneg, List.drop_zero]
            refine run_seq ?_
            refine run_regS [1, 7, 9, 31, 32, 33, 39] (by decide) (fun F hF => ?_)
            simp only [go_sem, reduceIte, reduceCtorEq, Nat.reduceLT, Nat.reduceLeDiff, Nat.reduceEqDiff, Nat.reduceAdd, Nat.reduceSub, Nat.reduceMul, Int.reduceEq, Int.reduceLT, Int.reduceLE, Int.reduceToNat]
            refine hF _ ?_; clear hF F
            simp only [go_sem, reduceIte, reduceCtorEq, Nat.reduceLT, Nat.reduceLeDiff, Nat.reduceEqDiff, Nat.reduceAdd, Nat.reduceSub, Nat.reduceMul, Int.reduceEq, Int.reduceLT, Int.reduceLE, Int.reduceToNat]
            refine run_condA (by simp only [evL, evC, tg, reduceIte, Nat.reduceEqDiff]; rfl) (fun h39 => ?_) (fun h39 => ?_)
            · try simp only [decide_eq_true_eq, decide_eq_false_iff_not, Bool.not_eq_true', Bool.not_eq_false'] at h39
              refine run_regS [1, 7, 31, 32, 33] (by decide) (fun F hF => ?_)
              simp only [go_sem, reduceIte, reduceCtorEq, Nat.reduceLT, Nat.reduceLeDiff, Nat.reduceEqDiff, Nat.reduceAdd, Nat.reduceSub, Nat.reduceMul, Int.reduceEq, Int.reduceLT, Int.reduceLE, Int.reduceToNat, lsA, le_add0, take_map_len, drop_map_len, ge0_len1, one_le_len1, Int.toNat_natCast, Int.reduceToNat, Int.toNat_one, Int.toNat_zero, Int.le_refl, Int.natCast_nonneg, List.drop_zero]
              refine aCall_pure0 (ih x (s :: q) (by simp only [stepsV]; rw [if_pos h39, if_neg (by omega)]; omega) (okV_item hv hx) (by have := sizeV_item hx; omega)) call17 (.cons (.refl _) (.cons (.refl _) .nil)) (by simp only [cloL, encV_clo, AV.clo, Bool.and_true]) ?_
              simp only [go_sem, reduceIte, reduceCtorEq, Nat.reduceLT, Nat.reduceLeDiff, Nat.reduceEqDiff, Nat.reduceAdd, Nat.reduceSub, Nat.reduceMul, Int.reduceEq, Int.reduceLT, Int.reduceLE, Int.reduceToNat, lsA, le_add0, take_map_len, drop_map_len, ge0_len1, one_le_len1, Int.toNat_natCast, Int.reduceToNat, Int.toNat_one, Int.toNat_zero, Int.le_refl, Int.natCast_nonneg, List.drop_zero]
              refine ⟨by have := accV_len v s q i; have := allV_len (s :: q) x; have := sizeV_item hx; omega, ?_⟩
              refine hF _ ?_; clear hF F
              simp only [go_sem, reduceIte, reduceCtorEq, Nat.reduceLT, Nat.reduceLeDiff, Nat.reduceEqDiff, Nat.reduceAdd, Nat.reduceSub, Nat.reduceMul, Int.reduceEq, Int.reduceLT, Int.reduceLE, Int.reduceToNat, lsA, le_add0, take_map_len, drop_map_len, ge0_len1, one_le_len1, Int.toNat_natCast, Int.reduceToNat, Int.toNat_one, Int.toNat_zero, Int.le_refl, Int.natCast_nonneg, List.drop_zero]
              refine run_blk ?_
              refine run_regS [1, 7, 31, 32, 33] (by decide) (fun F hF => ?_)
              simp only [go_sem, reduceIte, reduceCtorEq, Nat.reduceLT, Nat.reduceLeDiff, Nat.reduceEqDiff, Nat.reduceAdd, Nat.reduceSub, Nat.reduceMul, Int.reduceEq, Int.reduceLT, Int.reduceLE, Int.reduceToNat]
              refine hF _ ?_; clear hF F
              simp only [go_sem, reduceIte, reduceCtorEq, Nat.reduceLT, Nat.reduceLeDiff, Nat.reduceEqDiff, Nat.reduceAdd, Nat.reduceSub, Nat.reduceMul, Int.reduceEq, Int.reduceLT, Int.reduceLE, Int.reduceToNat]
              refine run_chk ?_
              first
              | exact ⟨i + 1, by omega, by omega, Sub.of_eq (by rw [accV_succ hx, ← allV_obj (by assumption), IntWalk.i64_in _ (by have := okV_len hv; omega)]; simp only [List.length_append, List.map_append]; rfl)⟩
              | exact ⟨i + 1, by omega, by omega, Sub.of_eq (by rw [accV_succ hx, pickV_not (by assumption), List.append_nil, IntWalk.i64_in _ (by have := okV_len hv; omega)]; rfl)⟩
            · try simp only [decide_eq_true_eq, decide_eq_false_iff_not, Bool.not_eq_true', Bool.not_eq_false'] at h39
              refine run_skip ?_
              refine run_blk ?_
              refine run_regS [1, 7, 31, 32, 33] (by decide) (fun F hF => ?_)
              simp only [go_sem, reduceIte, reduceCtorEq, Nat.reduceLT, Nat.reduceLeDiff, Nat.reduceEqDiff, Nat.reduceAdd, Nat.reduceSub, Nat.reduceMul, Int.reduceEq, Int.reduceLT, Int.reduceLE, Int.reduceToNat]
              refine hF _ ?_; clear hF F
              simp only [go_sem, reduceIte, reduceCtorEq, Nat.reduceLT, Nat.reduceLeDiff, Nat.reduceEqDiff, Nat.reduceAdd, Nat.reduceSub, Nat.reduceMul, Int.reduceEq, Int.reduceLT, Int.reduceLE, Int.reduceToNat]
              refine run_chk ?_
              first
              | exact ⟨i + 1, by omega, by omega, Sub.of_eq (by rw [accV_succ hx, ← allV_obj (by assumption), IntWalk.i64_in _ (by have := okV_len hv; omega)]; simp only [List.length_append, List.map_append]; rfl)⟩
              | exact ⟨i + 1, by omega, by omega, Sub.of_eq (by rw [accV_succ hx, pickV_not (by assumption), List.append_nil, IntWalk.i64_in _ (by have := okV_len hv; omega)]; rfl)⟩
          · try simp only [decide_eq_true_eq, decide_eq_false_iff_not, Bool.not_eq_true', Bool.not_eq_false'] at h34
            refine run_exit (k' := _) rfl ?_
            refine run_seq ?_
            refine run_regS [4] (by decide) (fun F hF => ?_)
            simp only [go_sem, reduceIte, reduceCtorEq, Nat.reduceLT, Nat.reduceLeDiff, Nat.reduceEqDiff, Nat.reduceAdd, Nat.reduceSub, Nat.reduceMul, Int.reduceEq, Int.reduceLT, Int.reduceLE, Int.reduceToNat]
            refine hF _ ?_; clear hF F
            simp only [go_sem, reduceIte, reduceCtorEq, Nat.reduceLT, Nat.reduceLeDiff, Nat.reduceEqDiff, Nat.reduceAdd, Nat.reduceSub, Nat.reduceMul, Int.reduceEq, Int.reduceLT, Int.reduceLE, Int.reduceToNat]
            refine run_ret ?_
            refine fin_of (.inr rfl) [(44, .arr 25 5 ((accV v s q i).map encV) .own)] (by intro p hp; simp only [List.mem_singleton] at hp; subst hp; exact ⟨rfl, by simp [Frzable]⟩) rfl ?_ (lsA_clo _)
            try simp only [AS.den, tg, reduceIte, Nat.reduceEqDiff, resV_one, clA, lk, clA_nil, List.length_map, List.length_cons, List.length_nil, Nat.zero_add, Nat.le_refl, List.drop_zero, take_map_len, List.take_succ_cons, List.take_zero]
            try simp only [decide_eq_true_eq, decide_eq_false_iff_not, Bool.not_eq_true', Bool.not_eq_false'] at *
            first
            | (subst hz; exact .refl _)
            | (rw [allV_list (of_decide_eq_true (by simpa using hg0)) h29]; refine Le.of_eq ?_; unfold accV; rw [List.take_of_length_le (by omega)]; rfl)
            | (rw [allV_one (by rintro ⟨q1, q2⟩; simp_all), oneV, if_pos (by assumption)]; exact .nil 5)
            | (rw [allV_one (by rintro ⟨q1, q2⟩; simp_all), oneV, if_neg (by assumption), hx]; exact .refl (lsA _))
          )
      · try simp only [decide_eq_true_eq, decide_eq_false_iff_not, Bool.not_eq_true', Bool.not_eq_false'] at h29
        first
        | exact absurd h29 (by decide)
        | (
          refine run_skip ?_
          refine run_seq ?_
          refine run_regD [1, 2, 10] (by decide) mixed0 (by decide) (fun F hF => ?_)
          simp only [go_sem, reduceIte, reduceCtorEq, Nat.reduceLT, Nat.reduceLeDiff, Nat.reduceEqDiff, Nat.reduceAdd, Nat.reduceSub, Nat.reduceMul, Int.reduceEq, Int.reduceLT, Int.reduceLE, Int.reduceToNat, le_add0, take_map_len, drop_map_len, ge0_len1, one_le_len1, Int.toNat_natCast, Int.reduceToNat, Int.toNat_one, Int.toNat_zero, Int.le_refl, Int.natCast_nonneg, List.drop_zero]
          refine aCall_flat0 (child46 W v s (okV_names hv)) call46 (.cons (.refl _) (.cons (.refl _) .nil)) (by simp only [cloL, encV_clo, AV.clo, Bool.and_true]) rfl ?_
          simp only [go_sem, reduceIte, reduceCtorEq, Nat.reduceLT, Nat.reduceLeDiff, Nat.reduceEqDiff, Nat.reduceAdd, Nat.reduceSub, Nat.reduceMul, Int.reduceEq, Int.reduceLT, Int.reduceLE, Int.reduceToNat, le_add0, take_map_len, drop_map_len, ge0_len1, one_le_len1, Int.toNat_natCast, Int.reduceToNat, Int.toNat_one, Int.toNat_zero, Int.le_refl, Int.natCast_nonneg, List.drop_zero]
          refine ⟨by decide, ?_⟩
          refine hF _ ?_; clear hF F
          simp only [go_sem, reduceIte, reduceCtorEq, Nat.reduceLT, Nat.reduceLeDiff, Nat.reduceEqDiff, Nat.reduceAdd, Nat.reduceSub, Nat.reduceMul, Int.reduceEq, Int.reduceLT, Int.reduceLE, Int.reduceToNat, le_add0, take_map_len, drop_map_len, ge0_len1, one_le_len1, Int.toNat_natCast, Int.reduceToNat, Int.toNat_one, Int.toNat_zero, Int.le_refl, Int.natCast_nonneg, List.drop_zero]
          refine run_seq ?_
          refine run_seq ?_
          refine run_regS [1, 2, 10, 53] (by decide) (fun F hF => ?_)
          simp only [go_sem, reduceIte, reduceCtorEq, Nat.reduceLT, Nat.reduceLeDiff, Nat.reduceEqDiff, Nat.reduceAdd, Nat.reduceSub, Nat.reduceMul, Int.reduceEq, Int.reduceLT, Int.reduceLE, Int.reduceToNat]
          refine hF _ ?_; clear hF F
          simp only [go_sem, reduceIte, reduceCtorEq, Nat.reduceLT, Nat.reduceLeDiff, Nat.reduceEqDiff, Nat.reduceAdd, Nat.reduceSub, Nat.reduceMul, Int.reduceEq, Int.reduceLT, Int.reduceLE, Int.reduceToNat]
          refine run_condA (by simp only [evL, evC, tg, reduceIte, Nat.reduceEqDiff]; rfl) (fun h53 => ?_) (fun h53 => ?_)
          · try simp only [decide_eq_true_eq, decide_eq_false_iff_not, Bool.not_eq_true', Bool.not_eq_false'] at h53
            refine run_seq ?_
            refine run_regS [4] (by decide) (fun F hF => ?_)
            simp only [go_sem, reduceIte, reduceCtorEq, Nat.reduceLT, Nat.reduceLeDiff, Nat.reduceEqDiff, Nat.reduceAdd, Nat.reduceSub, Nat.reduceMul, Int.reduceEq, Int.reduceLT, Int.reduceLE, Int.reduceToNat]
            refine hF _ ?_; clear hF F
            simp only [go_sem, reduceIte, reduceCtorEq, Nat.reduceLT, Nat.reduceLeDiff, Nat.reduceEqDiff, Nat.reduceAdd, Nat.reduceSub, Nat.reduceMul, Int.reduceEq, Int.reduceLT, Int.reduceLE, Int.reduceToNat]
            refine run_ret ?_
            refine fin_of (.inr rfl) [] (by simp) rfl ?_ (lsA_clo _)
            try simp only [AS.den, tg, reduceIte, Nat.reduceEqDiff, resV_one, clA, lk, clA_nil, List.length_map, List.length_cons, List.length_nil, Nat.zero_add, Nat.le_refl, List.drop_zero, take_map_len, List.take_succ_cons, List.take_zero]
            try simp only [decide_eq_true_eq, decide_eq_false_iff_not, Bool.not_eq_true', Bool.not_eq_false'] at *
            first
            | (subst hz; exact .refl _)
            | (rw [allV_list (of_decide_eq_true (by simpa using hg0)) h29]; refine Le.of_eq ?_; unfold accV; rw [List.take_of_length_le (by omega)]; rfl)
            | (rw [allV_one (by rintro ⟨q1, q2⟩; simp_all), oneV, if_pos (by assumption)]; exact .nil 5)
            | (rw [allV_one (by rintro ⟨q1, q2⟩; simp_all), oneV, if_neg (by assumption), hx]; exact .refl (lsA _))
          · try simp only [decide_eq_true_eq, decide_eq_false_iff_not, Bool.not_eq_true', Bool.not_eq_false'] at h53
            obtain ⟨x, hx⟩ := child_get (j := v) (s := s) (by omega)
            have h0 : (0 ≤ v.child s) = True := by simp only [eq_iff_iff, iff_true]; omega
            refine run_skip ?_
            refine run_seq ?_
            refine run_regD [4] (by decide) mixed0 (by decide) (fun F hF => ?_)
            simp only [go_sem, reduceIte, reduceCtorEq, Nat.reduceLT, Nat.reduceLeDiff, Nat.reduceEqDiff, Nat.reduceAdd, Nat.reduceSub, Nat.reduceMul, Int.reduceEq, Int.reduceLT, Int.reduceLE, Int.reduceToNat, lsA, hx, h0, List.getElem?_map, Option.map_some, le_add0, take_map_len, drop_map_len, ge0_len1, one_le_len1, Int.toNat_natCast, Int.reduceToNat, Int.toNat_one, Int.toNat_zero, Int.le_refl, Int.natCast_nonneg, List.drop_zero]
            refine aCall_pure0 (ih x q (by simp only [stepsV, List.length_cons]; split <;> (try split) <;> omega) (okV_item hv hx) (by have := sizeV_item hx; omega)) call17 (.cons (.refl _) (.cons (.refl _) .nil)) (by simp only [cloL, encV_clo, AV.clo, Bool.and_true]) ?_
            simp only [go_sem, reduceIte, reduceCtorEq, Nat.reduceLT, Nat.reduceLeDiff, Nat.reduceEqDiff, Nat.reduceAdd, Nat.reduceSub, Nat.reduceMul, Int.reduceEq, Int.reduceLT, Int.reduceLE, Int.reduceToNat, lsA, hx, h0, List.getElem?_map, Option.map_some, le_add0, take_map_len, drop_map_len, ge0_len1, one_le_len1, Int.toNat_natCast, Int.reduceToNat, Int.toNat_one, Int.toNat_zero, Int.le_refl, Int.natCast_nonneg, List.drop_zero]
            refine ⟨by decide, ?_⟩
            refine hF _ ?_; clear hF F
            simp only [go_sem, reduceIte, reduceCtorEq, Nat.reduceLT, Nat.reduceLeDiff, Nat.reduceEqDiff, Nat.reduceAdd, Nat.reduceSub, Nat.reduceMul, Int.reduceEq, Int.reduceLT, Int.reduceLE, Int.reduceToNat, lsA, hx, h0, List.getElem?_map, Option.map_some, le_add0, take_map_len, drop_map_len, ge0_len1, one_le_len1, Int.toNat_natCast, Int.reduceToNat, Int.toNat_one, Int.toNat_zero, Int.le_refl, Int.natCast_nonneg, List.drop_zero]
            refine run_ret ?_
            refine fin_of (.inr rfl) [] (by simp) rfl ?_ (lsA_clo _)
            try simp only [AS.den, tg, reduceIte, Nat.reduceEqDiff, resV_one, clA, lk, clA_nil, List.length_map, List.length_cons, List.length_nil, Nat.zero_add, Nat.le_refl, List.drop_zero, take_map_len, List.take_succ_cons, List.take_zero]
            try simp only [decide_eq_true_eq, decide_eq_false_iff_not, Bool.not_eq_true', Bool.not_eq_false'] at *
            first
            | (subst hz; exact .refl _)
            | (rw [allV_list (of_decide_eq_true (by simpa using hg0)) h29]; refine Le.of_eq ?_; unfold accV; rw [List.take_of_length_le (by omega)]; rfl)
            | (rw [allV_one (by rintro ⟨q1, q2⟩; simp_all), oneV, if_pos (by assumption)]; exact .nil 5)
            | (rw [allV_one (by rintro ⟨q1, q2⟩; simp_all), oneV, if_neg (by assumption), hx]; exact .refl (lsA _))
          )
    ·
      refine run_condA (by simp only [evL, evC, tg, reduceIte, Nat.reduceEqDiff]; rfl) (fun h29 => ?_) (fun h29 => ?_)
      · try simp only [decide_eq_true_eq, decide_eq_false_iff_not, Bool.not_eq_true', Bool.not_eq_false'] at h29
        first
        | exact absurd h29 (by decide)
        | (
          refine run_seq ?_
          refine run_regS [1, 2, 7] (by decide) (fun F hF => ?_)
          simp only [go_sem, reduceIte, reduceCtorEq, Nat.reduceLT, Nat.reduceLeDiff, Nat.reduceEqDiff, Nat.reduceAdd, Nat.reduceSub, Nat.reduceMul, Int.reduceEq, Int.reduceLT, Int.reduceLE, Int.reduceToNat]
          refine hF _ ?_; clear hF F
          simp only [go_sem, reduceIte, reduceCtorEq, Nat.reduceLT, Nat.reduceLeDiff, Nat.reduceEqDiff, Nat.reduceAdd, Nat.reduceSub, Nat.reduceMul, Int.reduceEq, Int.reduceLT, Int.reduceLE, Int.reduceToNat]
          refine run_seq ?_
          refine run_seq ?_
          refine run_regS [1, 7, 31, 32, 33] (by decide) (fun F hF => ?_)
          simp only [go_sem, reduceIte, reduceCtorEq, Nat.reduceLT, Nat.reduceLeDiff, Nat.reduceEqDiff, Nat.reduceAdd, Nat.reduceSub, Nat.reduceMul, Int.reduceEq, Int.reduceLT, Int.reduceLE, Int.reduceToNat]
          refine hF _ ?_; clear hF F
          simp only [go_sem, reduceIte, reduceCtorEq, Nat.reduceLT, Nat.reduceLeDiff, Nat.reduceEqDiff, Nat.reduceAdd, Nat.reduceSub, Nat.reduceMul, Int.reduceEq, Int.reduceLT, Int.reduceLE, Int.reduceToNat]
          refine run_block ?_
          refine run_loopA (fun i : Nat => ⟨[(1, .sl 1 ((s :: q).map AV.str) []), (7, .gs 44 0 (accV v s q i).length), (31, .sl 5 (v.items.map encV) []), (32, iA v.items.length), (33, iA i)], [(44, .arr 25 5 ((accV v s q i).map encV) .own)]⟩) (fun i => i ≤ v.items.length) (fun i => v.items.length - i) 0 (sub_phantomA 7 44 5 25 rfl (by omega) rfl) (by omega) (fun i hi => ?_)
          refine run_seq ?_
          refine run_regS [1, 7, 31, 32, 33, 34] (by decide) (fun F hF => ?_)
          simp only [go_sem, reduceIte, reduceCtorEq, Nat.reduceLT, Nat.reduceLeDiff, Nat.reduceEqDiff, Nat.reduceAdd, Nat.reduceSub, Nat.reduceMul, Int.reduceEq, Int.reduceLT, Int.reduceLE, Int.reduceToNat]
          refine hF _ ?_; clear hF F
          simp only [go_sem, reduceIte, reduceCtorEq, Nat.reduceLT, Nat.reduceLeDiff, Nat.reduceEqDiff, Nat.reduceAdd, Nat.reduceSub, Nat.reduceMul, Int.reduceEq, Int.reduceLT, Int.reduceLE, Int.reduceToNat]
          refine run_seq ?_
          refine run_condA (by simp only [evL, evC, tg, reduceIte, Nat.reduceEqDiff]; rfl) (fun h34 => ?_) (fun h34 => ?_)
          · try simp only [decide_eq_true_eq, decide_eq_false_iff_not, Bool.not_eq_true', Bool.not_eq_false'] at h34
            obtain ⟨x, hx⟩ : ∃ x, v.items[i]? = some x := ⟨v.items[i]'(by omega), by simp⟩
            have hk : v.kind = 5 := of_decide_eq_true hg0
            refine run_skip ?_
            refine run_seq ?_
            refine run_block ?_
            refine run_seq ?_
            refine run_regS [1, 7, 9, 31, 32, 33] (by decide) (fun F hF => ?_)
            simp only [go_sem, reduceIte, reduceCtorEq, Nat.reduceLT, Nat.reduceLeDiff, Nat.reduceEqDiff, Nat.reduceAdd, Nat.reduceSub, Nat.reduceMul, Int.reduceEq, Int.reduceLT, Int.reduceLE, Int.reduceToNat, hx, List.getElem?_map, Option.map_some, le_add0, take_map_len, drop_map_len, ge0_len1, one_le_len1, Int.toNat_natCast, Int.reduceToNat, Int.toNat_one, Int.toNat_zero, Int.le_refl, Int.natCast_nonneg, List.drop_zero]
            refine hF _ ?_; clear hF F
            simp only [go_sem, reduceIte, reduceCtorEq, Nat.reduceLT, Nat.reduceLeDiff, Nat.reduceEqDiff, Nat.reduceAdd, Nat.reduceSub, Nat.reduceMul, Int.reduceEq, Int.reduceLT, Int.reduceLE, Int.reduceToNat, hx, List.getElem?_map, Option.map_some, le_add0, take_map_len, drop_map_len, ge0_len1, one_le_len1, Int.toNat_natCast, Int.reduceToNat, Int.toNat_one, Int.toNat_zero, Int.le_refl, Int.natCast_nonneg, List.drop_zero]
            refine run_seq ?_
            refine run_regS [1, 7, 9, 31, 32, 33, 39] (by decide) (fun F hF => ?_)
            simp only [go_sem, reduceIte, reduceCtorEq, Nat.reduceLT, Nat.reduceLeDiff, Nat.reduceEqDiff, Nat.reduceAdd, Nat.reduceSub, Nat.reduceMul, Int.reduceEq, Int.reduceLT, Int.reduceLE, Int.reduceToNat]
            refine hF _ ?_; clear hF F
            simp only [go_sem, reduceIte, reduceCtorEq, Nat.reduceLT, Nat.reduceLeDiff, Nat.reduceEqDiff, Nat.reduceAdd, Nat.reduceSub, Nat.reduceMul, Int.reduceEq, Int.reduceLT, Int.reduceLE, Int.reduceToNat]
            refine run_condA (by simp only [evL, evC, tg, reduceIte, Nat.reduceEqDiff]; rfl) (fun h39 => ?_) (fun h39 => ?_)
            · try simp only [decide_eq_true_eq, decide_eq_false_iff_not, Bool.not_eq_true', Bool.not_eq_false'] at h39
              refine run_regS [1, 7, 31, 32, 33] (by decide) (fun F hF => ?_)
              simp only [go_sem, reduceIte, reduceCtorEq, Nat.reduceLT, Nat.reduceLeDiff, Nat.reduceEqDiff, Nat.reduceAdd, Nat.reduceSub, Nat.reduceMul, Int.reduceEq, Int.reduceLT, Int.reduceLE, Int.reduceToNat, lsA, le_add0, take_map_len, drop_map_len, ge0_len1, one_le_len1, Int.toNat_natCast, Int.reduceToNat, Int.toNat_one, Int.toNat_zero, Int.le_refl, Int.natCast_nonneg, List.drop_zero]
              refine aCall_pure0 (ih x (s :: q) (by simp only [stepsV]; rw [if_pos h39, if_neg (by omega)]; omega) (okV_item hv hx) (by have := sizeV_item hx; omega)) call17 (.cons (.refl _) (.cons (.refl _) .nil)) (by simp only [cloL, encV_clo, AV.clo, Bool.and_true]) ?_
              simp only [go_sem, reduceIte, reduceCtorEq, Nat.reduceLT, Nat.reduceLeDiff, Nat.reduceEqDiff, Nat.reduceAdd, Nat.reduceSub, Nat.reduceMul, Int.reduceEq, Int.reduceLT, Int.reduceLE, Int.reduceToNat, lsA, le_add0, take_map_len, drop_map_len, ge0_len1, one_le_len1, Int.toNat_natCast, Int.reduceToNat, Int.toNat_one, Int.toNat_zero, Int.le_refl, Int.natCast_nonneg, List.drop_zero]
              refine ⟨by have := accV_len v s q i; have := allV_len (s :: q) x; have := sizeV_item hx; omega, ?_⟩
              refine hF _ ?_; clear hF F
              simp only [go_sem, reduceIte, reduceCtorEq, Nat.reduceLT, Nat.reduceLeDiff, Nat.reduceEqDiff, Nat.reduceAdd, Nat.reduceSub, Nat.reduceMul, Int.reduceEq, Int.reduceLT, Int.reduceLE, Int.reduceToNat, lsA, le_add0, take_map_len, drop_map_len, ge0_len1, one_le_len1, Int.toNat_natCast, Int.reduceToNat, Int.toNat_one, Int.toNat_zero, Int.le_refl, Int.natCast_nonneg, List.drop_zero]
              refine run_blk ?_
              refine run_regS [1, 7, 31, 32, 33] (by decide) (fun F hF => ?_)
              simp only [go_sem, reduceIte, reduceCtorEq, Nat.reduceLT, Nat.reduceLeDiff, Nat.reduceEqDiff, Nat.reduceAdd, Nat.reduceSub, Nat.reduceMul, Int.reduceEq, Int.reduceLT, Int.reduceLE, Int.reduceToNat]
              refine hF _ ?_; clear hF F
              simp only [go_sem, reduceIte, reduceCtorEq, Nat.reduceLT, Nat.reduceLeDiff, Nat.reduceEqDiff, Nat.reduceAdd, Nat.reduceSub, Nat.reduceMul, Int.reduceEq, Int.reduceLT, Int.reduceLE, Int.reduceToNat]
              refine run_chk ?_
              first
              | exact ⟨i + 1, by omega, by omega, Sub.of_eq (by rw [accV_succ hx, ← allV_obj (by assumption), IntWalk.i64_in _ (by have := okV_len hv; omega)]; simp only [List.length_append, List.map_append]; rfl)⟩
              | exact ⟨i + 1, by omega, by omega, Sub.of_eq (by rw [accV_succ hx, pickV_not (by assumption), List.append_nil, IntWalk.i64_in _ (by have := okV_len hv; omega)]; rfl)⟩
            · try simp only [decide_eq_true_eq, decide_eq_false_iff_not, Bool.not_eq_true', Bool.not_eq_false'] at h39
              refine run_skip ?_
              refine run_blk ?_
              refine run_regS [1, 7, 31, 32, 33] (by decide) (fun F hF => ?_)
              simp only [go_sem, reduceIte, reduceCtorEq, Nat.reduceLT, Nat.reduceLeDiff, Nat.reduceEqDiff, Nat.reduceAdd, Nat.reduceSub, Nat.reduceMul, Int.reduceEq, Int.reduceLT, Int.reduceLE, Int.reduceToNat]
              refine hF _ ?_; clear hF F
              simp only [go_sem, reduceIte, reduceCtorEq, Nat.reduceLT, Nat.reduceLeDiff, Nat.reduceEqDiff, Nat.reduceAdd, Nat.reduceSub, Nat.reduceMul, Int.reduceEq, Int.reduceLT, Int.reduceLE, Int.reduceToNat]
              refine run_chk ?_
              first
              | exact ⟨i + 1, by omega, by omega, Sub.of_eq (by rw [accV_succ hx, ← allV_obj (by assumption), IntWalk.i64_in _ (by have := okV_len hv; omega)]; simp only [List.length_append, List.map_append]; rfl)⟩
              | exact ⟨i + 1, by omega, by omega, Sub.of_eq (by rw [accV_succ hx, pickV_not (by assumption), List.append_nil, IntWalk.i64_in _ (by have := okV_len hv; omega)]; rfl)⟩
          · try simp only [decide_eq_true_eq, decide_eq_false_iff_not, Bool.not_eq_true', Bool.not_eq_false'] at h34
            refine run_exit (k' := _) rfl ?_
            refine run_seq ?_
            refine run_regS [4] (by decide) (fun F hF => ?_)
            simp only [go_sem, reduceIte, reduceCtorEq, Nat.reduceLT, Nat.reduceLeDiff, Nat.reduceEqDiff, Nat.reduceAdd, Nat.reduceSub, Nat.reduceMul, Int.reduceEq, Int.reduceLT, Int.reduceLE, Int.reduceToNat]
            refine hF _ ?_; clear hF F
            simp only [go_sem, reduceIte, reduceCtorEq, Nat.reduceLT, Nat.reduceLeDiff, Nat.reduceEqDiff, Nat.reduceAdd, Nat.reduceSub, Nat.reduceMul, Int.reduceEq, Int.reduceLT, Int.reduceLE, Int.reduceToNat]
            refine run_ret ?_
            refine fin_of (.inr rfl) [(44, .arr 25 5 ((accV v s q i).map encV) .own)] (by intro p hp; simp only [List.mem_singleton] at hp; subst hp; exact ⟨rfl, by simp [Frzable]⟩) rfl ?_ (lsA_clo _)
            try simp only [AS.den, tg, reduceIte, Nat.reduceEqDiff, resV_one, clA, lk, clA_nil, List.length_map, List.length_cons, List.length_nil, Nat.zero_add, Nat.le_refl, List.drop_zero, take_map_len, List.take_succ_cons, List.take_zero]
            try simp only [decide_eq_true_eq, decide_eq_false_iff_not, Bool.not_eq_true', Bool.not_eq_false'] at *
            first
            | (subst hz; exact .refl _)
            | (rw [allV_list (of_decide_eq_true (by simpa using hg0)) h29]; refine Le.of_eq ?_; unfold accV; rw [List.take_of_length_le (by omega)]; rfl)
            | (rw [allV_one (by rintro ⟨q1, q2⟩; simp_all), oneV, if_pos (by assumption)]; exact .nil 5)
            | (rw [allV_one (by rintro ⟨q1, q2⟩; simp_all), oneV, if_neg (by assumption), hx]; exact .refl (lsA _))
          )
      · try simp only [decide_eq_true_eq, decide_eq_false_iff_not, Bool.not_eq_true', Bool.not_eq_false'] at h29
        first
        | exact absurd h29 (by decide)
        | (
          refine run_skip ?_
          refine run_seq ?_
          refine run_regD [1, 2, 10] (by decide) mixed0 (by decide) (fun F hF => ?_)
          simp only [go_sem, reduceIte, reduceCtorEq, Nat.reduceLT, Nat.reduceLeDiff, Nat.reduceEqDiff, Nat.reduceAdd, Nat.reduceSub, Nat.reduceMul, Int.reduceEq, Int.reduceLT, Int.reduceLE, Int.reduceToNat, le_add0, take_map_len, drop_map_len, ge0_len1, one_le_len1, Int.toNat_natCast, Int.reduceToNat, Int.toNat_one, Int.toNat_zero, Int.le_refl, Int.natCast_nonneg, List.drop_zero]
          refine aCall_flat0 (child46 W v s (okV_names hv)) call46 (.cons (.refl _) (.cons (.refl _) .nil)) (by simp only [cloL, encV_clo, AV.clo, Bool.and_true]) rfl ?_
          simp only [go_sem, reduceIte, reduceCtorEq, Nat.reduceLT, Nat.reduceLeDiff, Nat.reduceEqDiff, Nat.reduceAdd, Nat.reduceSub, Nat.reduceMul, Int.reduceEq, Int.reduceLT, Int.reduceLE, Int.reduceToNat, le_add0, take_map_len, drop_map_len, ge0_len1, one_le_len1, Int.toNat_natCast, Int.reduceToNat, Int.toNat_one, Int.toNat_zero, Int.le_refl, Int.natCast_nonneg, List.drop_zero]
          refine ⟨by decide, ?_⟩
          refine hF _ ?_; clear hF F
          simp only [go_sem, reduceIte, reduceCtorEq, Nat.reduceLT, Nat.reduceLeDiff, Nat.reduceEqDiff, Nat.reduceAdd, Nat.reduceSub, Nat.reduceMul, Int.reduceEq, Int.reduceLT, Int.reduceLE, Int.reduceToNat, le_add0, take_map_len, drop_map_len, ge0_len1, one_le_len1, Int.toNat_natCast, Int.reduceToNat, Int.toNat_one, Int.toNat_zero, Int.le_refl, Int.natCast_nonneg, List.drop_zero]
          refine run_seq ?_
          refine run_seq ?_
          refine run_regS [1, 2, 10, 53] (by decide) (fun F hF => ?_)
          simp only [go_sem, reduceIte, reduceCtorEq, Nat.reduceLT, Nat.reduceLeDiff, Nat.reduceEqDiff, Nat.reduceAdd, Nat.reduceSub, Nat.reduceMul, Int.reduceEq, Int.reduceLT, Int.reduceLE, Int.reduceToNat]
          refine hF _ ?_; clear hF F
          simp only [go_sem, reduceIte, reduceCtorEq, Nat.reduceLT, Nat.reduceLeDiff, Nat.reduceEqDiff, Nat.reduceAdd, Nat.reduceSub, Nat.reduceMul, Int.reduceEq, Int.reduceLT, Int.reduceLE, Int.reduceToNat]
          refine run_condA (by simp only [evL, evC, tg, reduceIte, Nat.reduceEqDiff]; rfl) (fun h53 => ?_) (fun h53 => ?_)
          · try simp only [decide_eq_true_eq, decide_eq_false_iff_not, Bool.not_eq_true', Bool.not_eq_false'] at h53
            refine run_seq ?_
            refine run_regS [4] (by decide) (fun F hF => ?_)
            simp only [go_sem, reduceIte, reduceCtorEq, Nat.reduceLT, Nat.reduceLeDiff, Nat.reduceEqDiff, Nat.reduceAdd, Nat.reduceSub, Nat.reduceMul, Int.reduceEq, Int.reduceLT, Int.reduceLE, Int.reduceToNat]
            refine hF _ ?_; clear hF F
            simp only [go_sem, reduceIte, reduceCtorEq, Nat.reduceLT, Nat.reduceLeDiff, Nat.reduceEqDiff, Nat.reduceAdd, Nat.reduceSub, Nat.reduceMul, Int.reduceEq, Int.reduceLT, Int.reduceLE, Int.reduceToNat]
            refine run_ret ?_
            refine fin_of (.inr rfl) [] (by simp) rfl ?_ (lsA_clo _)
            try simp only [AS.den, tg, reduceIte, Nat.reduceEqDiff, resV_one, clA, lk, clA_nil, List.length_map, List.length_cons, List.length_nil, Nat.zero_add, Nat.le_refl, List.drop_zero, take_map_len, List.take_succ_cons, List.take_zero]
            try simp only [decide_eq_true_eq, decide_eq_false_iff_not, Bool.not_eq_true', Bool.not_eq_false'] at *
            first
            | (subst hz; exact .refl _)
            | (rw [allV_list (of_decide_eq_true (by simpa using hg0)) h29]; refine Le.of_eq ?_; unfold accV; rw [List.take_of_length_le (by omega)]; rfl)
            | (rw [allV_one (by rintro ⟨q1, q2⟩; simp_all), oneV, if_pos (by assumption)]; exact .nil 5)
            | (rw [allV_one (by rintro ⟨q1, q2⟩; simp_all), oneV, if_neg (by assumption), hx]; exact .refl (lsA _))
          · try simp only [decide_eq_true_eq, decide_eq_false_iff_not, Bool.not_eq_true', Bool.not_eq_false'] at h53
            obtain ⟨x, hx⟩ := child_get (j := v) (s := s) (by omega)
            have h0 : (0 ≤ v.child s) = True := by simp only [eq_iff_iff, iff_true]; omega
            refine run_skip ?_
            refine run_seq ?_
            refine run_regD [4] (by decide) mixed0 (by decide) (fun F hF => ?_)
            simp only [go_sem, reduceIte, reduceCtorEq, Nat.reduceLT, Nat.reduceLeDiff, Nat.reduceEqDiff, Nat.reduceAdd, Nat.reduceSub, Nat.reduceMul, Int.reduceEq, Int.reduceLT, Int.reduceLE, Int.reduceToNat, lsA, hx, h0, List.getElem?_map, Option.map_some, le_add0, take_map_len, drop_map_len, ge0_len1, one_le_len1, Int.toNat_natCast, Int.reduceToNat, Int.toNat_one, Int.toNat_zero, Int.le_refl, Int.natCast_nonneg, List.drop_zero]
            refine aCall_pure0 (ih x q (by simp only [stepsV, List.length_cons]; split <;> (try split) <;> omega) (okV_item hv hx) (by have := sizeV_item hx; omega)) call17 (.cons (.refl _) (.cons (.refl _) .nil)) (by simp only [cloL, encV_clo, AV.clo, Bool.and_true]) ?_
            simp only [go_sem, reduceIte, reduceCtorEq, Nat.reduceLT, Nat.reduceLeDiff, Nat.reduceEqDiff, Nat.reduceAdd, Nat.reduceSub, Nat.reduceMul, Int.reduceEq, Int.reduceLT, Int.reduceLE, Int.reduceToNat, lsA, hx, h0, List.getElem?_map, Option.map_some, le_add0, take_map_len, drop_map_len, ge0_len1, one_le_len1, Int.toNat_natCast, Int.reduceToNat, Int.toNat_one, Int.toNat_zero, Int.le_refl, Int.natCast_nonneg, List.drop_zero]
            refine ⟨by decide, ?_⟩
            refine hF _ ?_; clear hF F
            simp only [go_sem, reduceIte, reduceCtorEq, Nat.reduceLT, Nat.reduceLeDiff, Nat.reduceEqDiff, Nat.reduceAdd, Nat.reduceSub, Nat.reduceMul, Int.reduceEq, Int.reduceLT, Int.reduceLE, Int.reduceToNat, lsA, hx, h0, List.getElem?_map, Option.map_some, le_add0, take_map_len, drop_map_len, ge0_len1, one_le_len1, Int.toNat_natCast, Int.reduceToNat, Int.toNat_one, Int.toNat_zero, Int.le_refl, Int.natCast_nonneg, List.drop_zero]
            refine run_ret ?_
            refine fin_of (.inr rfl) [] (by simp) rfl ?_ (lsA_clo _)
            try simp only [AS.den, tg, reduceIte, Nat.reduceEqDiff, resV_one, clA, lk, clA_nil, List.length_map, List.length_cons, List.length_nil, Nat.zero_add, Nat.le_refl, List.drop_zero, take_map_len, List.take_succ_cons, List.take_zero]
            try simp only [decide_eq_true_eq, decide_eq_false_iff_not, Bool.not_eq_true', Bool.not_eq_false'] at *
            first
            | (subst hz; exact .refl _)
            | (rw [allV_list (of_decide_eq_true (by simpa using hg0)) h29]; refine Le.of_eq ?_; unfold accV; rw [List.take_of_length_le (by omega)]; rfl)
            | (rw [allV_one (by rintro ⟨q1, q2⟩; simp_all), oneV, if_pos (by assumption)]; exact .nil 5)
            | (rw [allV_one (by rintro ⟨q1, q2⟩; simp_all), oneV, if_neg (by assumption), hx]; exact .refl (lsA _))
          )

theorem all17 (W : World) : ∀ (n : Nat) (v : JV) (p : List (List UInt8)), stepsV v p < n → okV v → sizeV v ≤ 2 ^ 30 → Pure Tryd.prog W 17 [encV v, .sl 1 (p.map AV.str) []] (lsA (allV v p))
  | 0, _, _, h, _, _ => by omega
  | n + 1, v, p, h, hv, hz => all17_step W v p hv hz fun u q hq hu hw => all17 W n u q (by omega) hu hw

end Go.Ab

