/- What is proved: contracts of functions of this translation, walked; their plain meaning. No condition beyond those that each theorem names. -/
import Derived.Test.YtdalodgajiodhaaGreatDoorIHFb5
set_option linter.all false
namespace Go.Ac
open Go Go.Proofs
set_option maxRecDepth 10000
set_option maxHeartbeats 1000000
theorem Fr1_z1 {cs} (h : Holds cs := by simp only [Holds, and_true] <;> and_intros <;> first | exact zd) : Holds cs := h
def S60 (h : JH) (l : List JV) (m n i : Int) : AS := ⟨[(1, iA m), (2, .gp 100000 0), (5, iA n), (6, iA i)], [(100000, .box (encV (.mk h l)) .own)]⟩
theorem b60_0 (W : World) (h : JH) (l : List JV) (m n i : Int) (h1 : JH) (l1 : List JV) (x : Int) : sbody Tryz.prog W { tl := [26], lp := true } 26 0 [] [1, 2, 5, 6] (S60 h l m n i) [bt, bt, bt, bt, bt, .lg, oS (eV h1 l1), ee, cR (iA x) [], ee] = .ok ((.normal, { t := [(1, iA m), (2, .gp 100000 0), (5, .val (Value.int IntKind.i64 (IntKind.i64.wrap (n + x)))), (6, .val (Value.int IntKind.i64 (IntKind.i64.wrap (i + 1))))], h := [(100000, gB (eV h l))] }), [ee], MZ W 26 [.agg [.val (Value.int IntKind.i64 h1.kind), .val (Value.int IntKind.i64 h1.int), .str h1.3, sL 1 (List.map AV.str h1.names), sL 5 (encVs l1)], .val (Value.int IntKind.i64 (IntKind.i64.wrap (m - n)))] [] (.ret (iA x) []) :: ((encVs l)[i.toNat]? = some (eV h1 l1)) :: (0 ≤ i) :: (decide (n ≤ m) = true) :: (d4 (decide (i < (↑(encVs l).length : Int)) = true) [])) := by kernel_rfl
theorem e60_1 (W : World) (h : JH) (l : List JV) (m n i : Int) : sbody Tryz.prog W { tl := [26], lp := true } 26 0 [] [5] (S60 h l m n i) [bt, bt, bt, bt, bf, ee] = .ok ((.exit 0, { t := [(5, iA n)], h := [] }), [ee], (decide (n ≤ m) = false) :: (d4 (decide (i < (↑(encVs l).length : Int)) = true) [])) := by kernel_rfl
theorem e60_2 (W : World) (h : JH) (l : List JV) (m n i : Int) : sbody Tryz.prog W { tl := [26], lp := true } 26 0 [] [5] (S60 h l m n i) [bf, bf, bf, bf, ee] = .ok ((.exit 0, { t := [(5, iA n)], h := [] }), [aE 9999999], d4 (decide (i < (↑(encVs l).length : Int)) = false) []) := by kernel_rfl
theorem p60_0 (W : World) (h : JH) (l : List JV) (m r : Int) : sfun Tryz.prog W { tl := [26], lp := true } 1000 5 26 [eV h l, iA m] [] 100000 [ee, Ans.loop [1, 2, 5, 6] (.exit 0) { t := [(5, iA r)], h := [] }, ee] [] = .ok (.ret (.val (Value.int IntKind.i64 r)) [], [ee], [LZ W [] 26 0 { t := [(1, iA m), (2, .gp 100000 0), (5, .val (Value.int IntKind.i64 (IntKind.i64.wrap (1 + (↑(List.map AV.str h.names).length : Int))))), (6, .val (Value.int IntKind.i64 0))], h := [(100000, gB (.agg [.val (Value.int IntKind.i64 h.kind), .val (Value.int IntKind.i64 h.int), .str h.3, sL 1 (List.map AV.str h.names), sL 5 (encVs l)]))] } (.exit 0) { t := [(5, iA r)], h := [] }]) := by kernel_rfl
theorem call60 : callable Tryz.prog 26 = true := by kernel_rfl
theorem loop60 (W : World) (h : JH) (l : List JV) (m r : Int) (hm : 0 ≤ m) (hm2 : m ≤ 2 ^ 32) (hv : okVs l) (hl : l.length ≤ 2 ^ 50)
    (ih : ∀ (i : Nat) (x : JV) (k : Int), l[i]? = some x → 0 ≤ k → k ≤ 2 ^ 32 → Pure Tryz.prog W 26 [encV x, iA k] (iA (partsV x k))) :
    ∀ q : Nat × Int, (q.1 ≤ l.length ∧ r = partsL (l.drop q.1) m q.2 ∧ 1 ≤ q.2 ∧ q.2 ≤ m + 1 + 2 ^ 50) → LoopC Tryz.prog W [] (nslots Tryz.prog 26) (loopOf Tryz.prog 26 0) (S60 h l m q.2 q.1) (.exit 0) ⟨[(5, iA r)], []⟩ := by
  refine loopC_inv (fun q : Nat × Int => S60 h l m q.2 q.1) (fun q => q.1 ≤ l.length ∧ r = partsL (l.drop q.1) m q.2 ∧ 1 ≤ q.2 ∧ q.2 ≤ m + 1 + 2 ^ 50) (fun q => l.length - q.1) (by simp) ?_
  rintro ⟨i, n⟩ ⟨h1, h2, h3, h4⟩
  simp only at h1 h2 h3 h4 ⊢
  by_cases hi : i < l.length
  · obtain ⟨x, hx⟩ := getOf hi
    have hp := partsL_bd
    by_cases hn : n ≤ m
    · left
      have hb := partsV_bd x (m - n) (okVs_get hv hx) (by omega)
      have hih := ih i x (m - n) hx (by omega) (by omega)
      refine ⟨(i + 1, n + partsV x (m - n)), ⟨by simp only; omega, ?_, by simp only; omega, by simp only; omega⟩, by simp only; omega, ?_⟩
      · rw [h2, drop_get hx, partsL, if_pos hn]
      · cases x with
        | mk h1 l1 =>
          refine body_of_sbody mixedz (b60_0 W h l m n i h1 l1 (partsV (.mk h1 l1) (m - n))) (by simp only [Holds, and_true]; all_goals (and_intros <;> first | exact .inl trivial | (rw [Int.toNat_natCast]; exact encVs_get hx; done) | (rw [wrap_in (by omega)]; exact mut_of_pure (by rfl) hih; done)  | exact trivial | assumption | (simp only [decide_eq_true_eq, decide_eq_false_iff_not, Bool.not_eq_true', Bool.not_eq_false', encVs_len, List.length_map]; omega) | omega)) ?_
          rw [wrap_in (by omega), wrap_in (by omega)]; rfl
    · right
      refine body_of_sbody mixedz (e60_1 W h l m n i) Fr1_z1 ?_
      rw [h2, drop_get hx, partsL, if_neg hn]
  · right
    refine body_of_sbody mixedz (e60_2 W h l m n i) Fr1_z1 ?_
    rw [h2, List.drop_of_length_le (by omega)]; rfl
theorem parts60 (W : World) : ∀ (k : Nat) (v : JV) (m : Int), sizeV v < k → okV v → 0 ≤ m → m ≤ 2 ^ 32 → Pure Tryz.prog W 26 [encV v, iA m] (iA (partsV v m))
  | 0, _, _, h, _, _, _ => by omega
  | k + 1, .mk h l, m, hk, hv, h1, h2 => by
    have hn := okV_nm hv
    have hl := okV_ln hv
    simp only [JV.names, JV.hd, JV.items] at hn hl
    have hlp := loop60 W h l m (partsV (.mk h l) m) h1 h2 hv.2.2 hl (fun i x k' hx h3 h4 => parts60 W k x k' (by have := sizeV_item (v := .mk h l) hx; omega) (okVs_get hv.2.2 hx) h3 h4) (0, 1 + h.names.length) ⟨by simp, by simp only [List.drop_zero]; rfl, by simp only; omega, by simp only; omega⟩
    refine pure_of_mut rfl (mut_of_sfun mixedz call60 rfl (p60_0 W h l m (partsV (.mk h l) m)) ⟨?_, trivial⟩)
    rw [wrap_in (by simp only [List.length_map]; omega), List.length_map]
    exact hlp
theorem parts (W : World) (v : JV) (m : Int) (hv : okV v) (h1 : 0 ≤ m) (h2 : m ≤ 2 ^ 32) : Pure Tryz.prog W 26 [encV v, iA m] (iA (partsV v m)) := parts60 W _ v m (Nat.lt_succ_self _) hv h1 h2
end Go.Ac

