/- What is proved: contracts of functions of this translation, walked; their plain meaning. No condition beyond those that each theorem names. -/
import Derived.Test.YtohlmhkiejpkgaaGreatDoorFb20
import Derived.Test.YtohlmhkiejpkgaaGreatDoorPl2
import Derived.Test.YtohlmhkiejpkgaaGreatDoorSd7
set_option linter.all false
namespace Go.Ac
open Go Go.Proofs
set_option maxRecDepth 10000
set_option maxHeartbeats 2000000
abbrev oA (s : List UInt8) (v : AV) : AV := .agg [iA 6, iA 0, .str [], .sl 1 [.str s] [], .sl 5 [v] []]
def S4 (s : List UInt8) (hd : JH) (ld : List JV) (P : List AV) (i : Nat) : AS := ⟨[(0, .str s), (5, .gp 100001 0), (11, .gs 100004 0 6), (12, iA i)], [(100001, .box (encV (.mk hd ld)) .own), (100004, .arr 44 10 P .own)]⟩
def E4 : AS := ⟨[], []⟩
theorem p26_0 (W : World) (s : List UInt8) (h : JH) (l : List JV) : sF W { lp := true, fin := 9 } 26 [.str s, eV h l] [] 100000 [ee, .fin [] [] (.agg [iA 6, iA 0, .str [], .gs 100002 0 1, .gs 100003 0 1]) [(100002, .arr 9 1 [.str s] .own), (100003, .arr 25 5 [eV h l] .own)], ee] [] = .ok (.ret (.agg [iA 6, iA 0, .str [], .gs 100002 0 1, .gs 100003 0 1]) [(100002, .arr 9 1 [.str s] .own), (100003, .arr 25 5 [eV h l] .own)], [ee], [MatchK [] [] [] { t := [(0, .agg [iA 6, iA 0, .str [], .gs 100002 0 1, .gs 100003 0 1])], h := [(100000, gB (eV h l)), (100001, gB (.agg [iA 6, iA 0, .str [], .gs 100002 0 1, .gs 100003 0 1])), (100002, .arr 9 1 [.str s] .own), (100003, .arr 25 5 [eV h l] .own)] } { t := [(0, .agg [iA 6, iA 0, .str [], .gs 100002 0 1, .gs 100003 0 1])], h := [(100002, .arr 9 1 [.str s] .own), (100003, .arr 25 5 [eV h l] .own)] }]) := by kernel_rfl
theorem Fo1_z1 {kp f ph σ σ'} (h : MatchK kp f ph σ σ' := by exact ⟨by rfl, (by simp only [S4, E4, tOK, List.map_cons, List.map_nil, and_true] <;> exact zt), (by simp only [S4, E4, hOK, List.map_cons, List.map_nil, and_true] <;> exact zh), (by simp only [S4, E4, liveT, List.map_cons, List.map_nil, and_true] <;> exact zv), (by simp only [S4, E4, liveH, List.map_cons, List.map_nil, and_true] <;> exact zv)⟩) : MatchK kp f ph σ σ' := h
theorem call26 : callable Tryz.prog 26 = true := by kernel_rfl
section
variable (W : World)
theorem obj26 (s : List UInt8) (v : JV) : Pure Tryz.prog W 26 [.str s, encV v] (encV (objV s v)) := by
  obtain ⟨h, l⟩ := v
  have hM := mut_of_sfun mixedz call26 rfl (p26_0 W s h l) (by simp only [Holds, and_true]; exact Fo1_z1)
  refine pure_frz [(100002, .arr 9 1 [.str s] .own), (100003, .arr 25 5 [encV (.mk h l)] .own)] hM ?_ ?_ (encV_clo _)
  · intro p hp
    simp only [List.mem_cons, List.not_mem_nil, or_false] at hp
    rcases hp with rfl | rfl
    · exact ⟨by simp [hg], by simp [Frzable, cloL, AV.clo]⟩
    · exact ⟨by simp [hg], by simp [Frzable, cloL, encV_clo]⟩
  · rfl
theorem obj26M (s : List UInt8) (v : JV) : MutC Tryz.prog W 26 [.str s, encV v] [] (.ret (oA s (encV v)) []) := mut_of_pure (by simp only [cloL, encV_clo, AV.clo, Bool.and_self]) (obj26 W s v)
end
end Go.Ac

