/- What is proved: contracts of functions of this translation, walked; their plain meaning. No condition beyond those that each theorem names. -/
import Derived.Test.YtlppehancgjpbaaMa5
import Derived.Test.YtlppehancgjpbaaProg
set_option linter.all false
namespace Go.Ac
open Go Go.Proofs

set_option maxRecDepth 10000
set_option maxHeartbeats 1000000

theorem o9_0 (W : World) (els : List AV) : sfun Try.prog W { lp := true, fin := 5 } 1000 5 9 [.sl 7 els []] [] 100000 [Ans.ev 2, Ans.lg, Ans.fin [] [] (AV.gs 100001 0 (0 + els.length)) [(100001, GE.arr 50 7 els St.own)], Ans.ev 0] [] = .ok (OutC.ret (AV.gs 100001 0 (0 + els.length)) [(100001, GE.arr 50 7 els St.own)], [Ans.ev 0], [MatchK [] [] [] { t := [(0, AV.gs 100001 0 (0 + els.length))], h := [(100000, GE.dead), (100001, GE.arr 50 7 els St.own)] } { t := [(0, AV.gs 100001 0 (0 + els.length))], h := [(100001, GE.arr 50 7 els St.own)] }, (0 + els.length) * 104 ≤ 140737488355328]) := by kernel_rfl
theorem p4_0 (W : World) (els : List AV) : sfun Try.prog W { tl := [9, 6], lp := true } 1000 8 4 [.sl 7 els []] [] 100000 [Ans.br true, Ans.ev 0] [] = .ok (OutC.ret (AV.val (Value.bool true)) [], [Ans.ev 0], [decide (300 < (↑els.length : Int)) = true]) := by kernel_rfl
theorem p4_1 (W : World) (els : List AV) : sfun Try.prog W { tl := [9, 6], lp := true } 1000 8 4 [.sl 7 els []] [] 100000 [Ans.br false, Ans.ev 8, Ans.call (OutC.ret (AV.sl 7 els []) []), Ans.ev 37, Ans.call (OutC.ret (bA true) []), Ans.ev 1] [] = .ok (OutC.ret (AV.val (Value.bool true)) [], [Ans.ev 0], [MutC Try.prog W 6 [] [] (OutC.ret (bA true) []), MutC Try.prog W 9 [AV.sl 7 els []] [] (OutC.ret (AV.sl 7 els []) []), decide (300 < (↑els.length : Int)) = false]) := by kernel_rfl

theorem mixeda : Try.prog.follows .mixedOrders = true := by kernel_rfl
theorem call4 : callable Try.prog 4 = true := by kernel_rfl
theorem call6 : callable Try.prog 6 = true := by kernel_rfl
theorem call9 : callable Try.prog 9 = true := by kernel_rfl
theorem reckoned6 : xfun Try.prog 1000 30 6 [] [] 100000 = some (.ret (.val (.bool true)) []) := by kernel_rfl
theorem live6 (W : World) : Pure Try.prog W 6 [] (.val (.bool true)) := pure_of_xfun mixeda call6 rfl rfl reckoned6
theorem own9 (W : World) (els : List AV) (hc : cloL els = true) (hl : els.length ≤ 2 ^ 20) : Pure Try.prog W 9 [.sl 7 els []] (.sl 7 els []) :=
  pure_frz1 (mut_of_sfun mixeda call9 rfl (o9_0 W els) ⟨⟨by rfl, (by simp only [tOK, List.map_cons, List.map_nil, and_true]; all_goals (and_intros <;> first | exact trivial | (first | exact .top _ | exact .eq rfl rfl | exact .nil rfl | exact .same rfl (encV_clo _) | exact .same rfl rfl | (refine .aggL ?_; repeat' (first | exact LePL.nil | refine LePL.cons ?_ ?_)); all_goals (first | exact .top _ | exact .eq rfl rfl | exact .nil rfl | exact .same rfl (encV_clo _) | exact .same rfl rfl)))), (by simp only [hOK, List.map_cons, List.map_nil, and_true]; all_goals (and_intros <;> first | exact trivial | exact gOK_ph' rfl (by decide) (by simp [encVs]) | (refine gOK_box rfl rfl rfl ?_; (first | exact .top _ | exact .eq rfl rfl | exact .nil rfl | exact .same rfl (encV_clo _) | exact .same rfl rfl | (refine .aggL ?_; repeat' (first | exact LePL.nil | refine LePL.cons ?_ ?_)); all_goals (first | exact .top _ | exact .eq rfl rfl | exact .nil rfl | exact .same rfl (encV_clo _) | exact .same rfl rfl))) | exact gOK_eq rfl rfl rfl | exact gOK_arr rfl rfl (by first | rfl | rfl) (by first | exact hc | rfl | exact encVs_clo _ | exact cloL_str _ | exact cloL_encV _ | assumption | (simp only [clo_append, cloL, encVs_clo, cloL_str, cloL_encV, encV_clo, Bool.and_true, Bool.and_self, *]; done)))), (by simp only [liveT, List.map_cons, List.map_nil, and_true]; all_goals (and_intros <;> first | rfl | exact trivial | exact allN_clo (by first | exact hc | rfl | exact encVs_clo _ | exact cloL_str _ | exact cloL_encV _ | assumption | (simp only [clo_append, cloL, encVs_clo, cloL_str, cloL_encV, encV_clo, Bool.and_true, Bool.and_self, *]; done)))), (by simp only [liveH, List.map_cons, List.map_nil, and_true]; all_goals (and_intros <;> first | rfl | exact trivial | exact allN_cloL (by first | exact hc | rfl | exact encVs_clo _ | exact cloL_str _ | exact cloL_encV _ | assumption | (simp only [clo_append, cloL, encVs_clo, cloL_str, cloL_encV, encV_clo, Bool.and_true, Bool.and_self, *]; done))))⟩, (by simp only [Holds, and_true]; all_goals (and_intros <;> first | exact .inl trivial  | exact trivial | assumption | (simp only [decide_eq_true_eq, decide_eq_false_iff_not, Bool.not_eq_true', Bool.not_eq_false', encVs_len, List.length_map]; omega) | omega))⟩) (by simp) hc
theorem cursorNil4 (W : World) (els : List AV) (hc : cloL els = true) : Pure Try.prog W 4 [.sl 7 els []] (.val (.bool true)) := by
  by_cases h : 300 < els.length
  · exact pure_of_mut rfl (mut_of_sfun mixeda call4 rfl (p4_0 W els) (by simp only [Holds, and_true]; all_goals (and_intros <;> first | exact .inl trivial | (exact h9; done) | (exact h6; done)  | exact trivial | assumption | (simp only [decide_eq_true_eq, decide_eq_false_iff_not, Bool.not_eq_true', Bool.not_eq_false', encVs_len, List.length_map]; omega) | omega)))
  · have h9 := mut_of_pure (by simp only [cloL, AV.clo]; rfl) (own9 W els hc (by omega))
    have h6 := mut_of_pure (by rfl) (live6 W)
    exact pure_of_mut rfl (mut_of_sfun mixeda call4 rfl (p4_1 W els) (by simp only [Holds, and_true]; all_goals (and_intros <;> first | exact .inl trivial | (exact h9; done) | (exact h6; done)  | exact trivial | assumption | (simp only [decide_eq_true_eq, decide_eq_false_iff_not, Bool.not_eq_true', Bool.not_eq_false', encVs_len, List.length_map]; omega) | omega)))

end Go.Ac

