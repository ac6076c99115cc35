/- What is proved: contracts of functions of this translation, walked; their plain meaning. No condition beyond those that each theorem names. -/
import Derived.Test.YtlppehancgjpbaaGreatDoorV7
import Derived.Test.YtlppehancgjpbaaGreatDoorV4
import Derived.Test.YtlppehancgjpbaaGreatDoorV1
set_option linter.all false
namespace Go.Ac
open Go Go.Proofs

set_option maxRecDepth 10000
set_option maxHeartbeats 1000000

theorem p7_0 (W : World) (h : JH) (l : List JV) (n : Int) : sfun Tryz.prog W { tl := [47, 30, 66, 31, 27], lp := true } 1000 8 7 [encV (.mk h l)] [] 100000 [Ans.ev 10000000, Ans.call (OutC.ret (iA n) []), Ans.br true, Ans.ev 10000000] [] = .ok (OutC.ret (AV.val (Value.bool true)) [], [Ans.ev 10000000], [decide (10000 < n) = true, MutC Tryz.prog W 47 [AV.agg [AV.val (Value.int IntKind.i64 h.kind), AV.val (Value.int IntKind.i64 h.int), AV.str h.3, AV.sl 1 (List.map AV.str h.names) [], AV.sl 5 (encVs l) []], AV.val (Value.int IntKind.i64 10000)] [] (OutC.ret (iA n) [])]) := by kernel_rfl
theorem p7_1 (W : World) (h : JH) (l : List JV) (n : Int) : sfun Tryz.prog W { tl := [47, 30, 66, 31, 27], lp := true } 1000 8 7 [encV (.mk h l)] [] 100000 [Ans.ev 10000000, Ans.call (OutC.ret (iA n) []), Ans.br false, Ans.ev 10000000, Ans.call (OutC.ret (encV (JV.mk h l)) []), Ans.ev 10000000, Ans.call (OutC.ret (encV (JV.mk h l)) []), Ans.ev 10000000, Ans.call (OutC.ret (bA true) []), Ans.ev 10000000, Ans.call (OutC.ret (bA true) []), Ans.ev 10000000] [] = .ok (OutC.ret (AV.val (Value.bool true)) [], [Ans.ev 9999999], [MutC Tryz.prog W 27 [] [] (OutC.ret (bA true) []), MutC Tryz.prog W 31 [AV.agg [AV.val (Value.int IntKind.i64 h.kind), AV.val (Value.int IntKind.i64 h.int), AV.str h.3, AV.sl 1 (List.map AV.str h.names) [], AV.sl 5 (encVs l) []], AV.agg [AV.val (Value.int IntKind.i64 h.kind), AV.val (Value.int IntKind.i64 h.int), AV.str h.3, AV.sl 1 (List.map AV.str h.names) [], AV.sl 5 (encVs l) []]] [] (OutC.ret (bA true) []), MutC Tryz.prog W 66 [AV.agg [AV.val (Value.int IntKind.i64 h.kind), AV.val (Value.int IntKind.i64 h.int), AV.str h.3, AV.sl 1 (List.map AV.str h.names) [], AV.sl 5 (encVs l) []]] [] (OutC.ret (encV (JV.mk h l)) []), MutC Tryz.prog W 30 [AV.agg [AV.val (Value.int IntKind.i64 h.kind), AV.val (Value.int IntKind.i64 h.int), AV.str h.3, AV.sl 1 (List.map AV.str h.names) [], AV.sl 5 (encVs l) []]] [] (OutC.ret (encV (JV.mk h l)) []), decide (10000 < n) = false, MutC Tryz.prog W 47 [AV.agg [AV.val (Value.int IntKind.i64 h.kind), AV.val (Value.int IntKind.i64 h.int), AV.str h.3, AV.sl 1 (List.map AV.str h.names) [], AV.sl 5 (encVs l) []], AV.val (Value.int IntKind.i64 10000)] [] (OutC.ret (iA n) [])]) := by kernel_rfl

theorem call7 : callable Tryz.prog 7 = true := by kernel_rfl

theorem nil7 (W : World) (h27 : MutC Tryz.prog W 27 [] [] (.ret (.val (.bool true)) [])) (v : JV) (hv : okV v) : Pure Tryz.prog W 7 [encV v] (.val (.bool true)) := by
  have hp := mut_of_pure (by simp only [cloL, encV_clo]; rfl) (parts W v 10000 hv (by omega) (by omega))
  have hle := partsV_le v 10000
  cases v with
  | mk h l =>
    by_cases hb : 10000 < partsV (.mk h l) 10000
    · exact pure_of_mut rfl (mut_of_sfun mixedz call7 rfl (p7_0 W h l (partsV (.mk h l) 10000)) (by simp only [Holds, and_true]; all_goals (and_intros <;> first | exact .inl trivial | (exact hp; done) | (exact h30; done) | (exact h66; done) | (exact h31; done) | (exact h27; done) | (simp only [decide_eq_true_eq, decide_eq_false_iff_not]; omega; done) | (simp only [decide_eq_true_eq, decide_eq_false_iff_not]; done)  | exact trivial | assumption | (simp only [decide_eq_true_eq, decide_eq_false_iff_not, Bool.not_eq_true', Bool.not_eq_false', encVs_len, List.length_map]; omega) | omega)))
    · have hc := hle (by omega)
      have h30 := mut_of_pure (by rfl) (copy30 W _ (.mk h l) (Nat.lt_succ_self _) hv (by omega))
      have h66 := mut_of_pure (by rfl) (copy66 W _ (.mk h l) (Nat.lt_succ_self _) hv (by omega))
      have h31 := mut_of_pure (by rfl) (equal31 W _ (.mk h l) (.mk h l) (Nat.lt_succ_self _) hv)
      rw [eqV_true] at h31
      exact pure_of_mut rfl (mut_of_sfun mixedz call7 rfl (p7_1 W h l (partsV (.mk h l) 10000)) (by simp only [Holds, and_true]; all_goals (and_intros <;> first | exact .inl trivial | (exact hp; done) | (exact h30; done) | (exact h66; done) | (exact h31; done) | (exact h27; done) | (simp only [decide_eq_true_eq, decide_eq_false_iff_not]; omega; done) | (simp only [decide_eq_true_eq, decide_eq_false_iff_not]; done)  | exact trivial | assumption | (simp only [decide_eq_true_eq, decide_eq_false_iff_not, Bool.not_eq_true', Bool.not_eq_false', encVs_len, List.length_map]; omega) | omega)))

end Go.Ac

