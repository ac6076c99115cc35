/- What is proved: contracts of functions of this translation, walked; their plain meaning. No condition beyond those that each theorem names. -/
import Derived.Test.YtdalodgajiodhaaGreatDoorIHZq
import Derived.Test.YtdalodgajiodhaaGreatDoorMa6
import Derived.Test.YtdalodgajiodhaaGreatDoorProg
set_option linter.all false
namespace Go.Ac
open Go Go.Proofs
set_option maxRecDepth 10000
set_option maxHeartbeats 1000000
theorem Fb1_z1 {kp f ph σ σ'} (h : MatchK kp f ph σ σ' := by exact ⟨by rfl, (by simp only [S71, R71, tOK, List.map_cons, List.map_nil, and_true] <;> exact zt), (by simp only [S71, R71, hOK, List.map_cons, List.map_nil, and_true] <;> exact zh), (by simp only [S71, R71, liveT, List.map_cons, List.map_nil, and_true] <;> exact zv), (by simp only [S71, R71, liveH, List.map_cons, List.map_nil, and_true] <;> exact zv)⟩) : MatchK kp f ph σ σ' := h
theorem Fb1_z3 {cs} (h : Holds cs := by simp only [Holds, and_true] <;> and_intros <;> first | exact zd) : Holds cs := h
theorem Fb1_z4 {cs} (h : Holds cs := by simp only [Holds, and_true] <;> and_intros <;> first | exact zd | exact Fb1_z1) : Holds cs := h
def S71 (s : List UInt8) (n i : Int) : AS := ⟨[(0, .str s), (4, iA n), (5, iA i)], []⟩
def R71 : AS := ⟨[(2, .val (.int .i64 0)), (3, .val (.bool false))], []⟩
theorem b71_0 (W : World) (s : List UInt8) (n i : Int) (x : UInt8) : sQ W { lp := true } 101 0 [] [0, 2, 3, 4, 5] (S71 s n i) [bt, .lg, Ans.byt (some x), bt, bt, bt, bt, bt, ee] = .ok ((.ret, { t := [(0, .str s), (2, iA 0), (3, bA false), (4, iA n), (5, iA i)], h := [] }), [aE 9999999], (decide ((↑x.toNat : Int) < 48) = true) :: (d4 (decide ((↑x.toNat : Int) < 48) = true) [s[i.toNat]? = some x, 0 ≤ i, decide (i < (↑s.length : Int)) = true])) := by kernel_rfl
theorem b71_1 (W : World) (s : List UInt8) (n i : Int) (x : UInt8) : sQ W { lp := true } 101 0 [] [0, 2, 3, 4, 5] (S71 s n i) [bt, .lg, Ans.byt (some x), bf, bf, bf, .lg, Ans.byt (some x), bf, bf, bt, ee] = .ok ((.ret, { t := [(0, .str s), (2, iA 0), (3, bA false), (4, iA n), (5, iA i)], h := [] }), [ee], (decide (57 < (↑x.toNat : Int)) = true) :: (d2 (decide ((↑x.toNat : Int) < 48) = false) ((s[i.toNat]? = some x) :: (0 ≤ i) :: (d3 (decide ((↑x.toNat : Int) < 48) = false) [s[i.toNat]? = some x, 0 ≤ i, decide (i < (↑s.length : Int)) = true])))) := by kernel_rfl
theorem b71_2 (W : World) (s : List UInt8) (n i : Int) (x : UInt8) : sQ W { lp := true } 101 0 [] [0, 2, 3, 4, 5] (S71 s n i) [bt, .lg, Ans.byt (some x), bf, bf, bf, .lg, Ans.byt (some x), bf, bf, bf, .lg, Ans.byt (some x), ee] = .ok ((.normal, { t := [(0, .str s), (4, iA (IntKind.i64.wrap (IntKind.i64.wrap (10 * n) + IntKind.i64.wrap (IntKind.u8.wrap ((↑x.toNat : Int) - 48))))), (5, iA (IntKind.i64.wrap (i + 1)))], h := [] }), [ee], (s[i.toNat]? = some x) :: (0 ≤ i) :: (decide (57 < (↑x.toNat : Int)) = false) :: (d2 (decide ((↑x.toNat : Int) < 48) = false) ((s[i.toNat]? = some x) :: (0 ≤ i) :: (d3 (decide ((↑x.toNat : Int) < 48) = false) [s[i.toNat]? = some x, 0 ≤ i, decide (i < (↑s.length : Int)) = true])))) := by kernel_rfl
theorem b71_3 (W : World) (s : List UInt8) (n i : Int) : sQ W { lp := true } 101 0 [] [0, 2, 3, 4, 5] (S71 s n i) [bf, ee] = .ok ((.exit 0, { t := [(0, .str s), (4, iA n), (5, iA i)], h := [] }), [ee], [decide (i < (↑s.length : Int)) = false]) := by kernel_rfl
theorem p71_0 (W : World) (s : List UInt8) : sfun Tryz.prog W { lp := true } 1000 5 101 [.str s] [] 100000 [bt, bt, bt, bt, ee] [] = .ok (.ret (.tup [iA 0, bA false]) [], [aE 9999993], d4 (decide ((↑s.length : Int) < 1) = true) []) := by kernel_rfl
theorem p71_1 (W : World) (s : List UInt8) : sfun Tryz.prog W { lp := true } 1000 5 101 [.str s] [] 100000 [bf, bf, bf, bf, bt, bt, bt, bt, bt, bt, ee] [] = .ok (.ret (.tup [iA 0, bA false]) [], [aE 9999999], d6 (decide (9 < (↑s.length : Int)) = true) (d4 (decide ((↑s.length : Int) < 1) = false) [])) := by kernel_rfl
theorem p71_2 (W : World) (s : List UInt8) (x : UInt8) : sfun Tryz.prog W { lp := true } 1000 5 101 [.str s] [] 100000 [bf, bf, bf, bf, bf, bf, bf, bf, bt, bt, aE 1, Ans.byt (some x), bt, bf, bt, bf, bt, ee] [] = .ok (.ret (.tup [iA 0, bA false]) [], [ee], (decide ((↑x.toNat : Int) = 48) = true) :: (decide (9 < (↑s.length : Int)) = false) :: (decide (1 < (↑s.length : Int)) = true) :: (decide (9 < (↑s.length : Int)) = false) :: (decide (1 < (↑s.length : Int)) = true) :: (s[0]? = some x) :: (d2 (decide (1 < (↑s.length : Int)) = true) (d4 (decide (9 < (↑s.length : Int)) = false) (d4 (decide ((↑s.length : Int) < 1) = false) [])))) := by kernel_rfl
theorem p71_3 (W : World) (s : List UInt8) (x : UInt8) (n : Int) : sfun Tryz.prog W { lp := true } 1000 5 101 [.str s] [] 100000 [bf, bf, bf, bf, bf, bf, bf, bf, bt, bt, aE 1, Ans.byt (some x), bt, bf, bt, bf, bf, ee, .loopM [] [] (S71 s 0 0) (.exit 0) (S71 s n (↑s.length : Int)), ee] [] = .ok (.ret (.tup [iA n, bA true]) [], [ee], LZ W [] 101 0 (S71 s 0 0) (.exit 0) (S71 s n (↑s.length : Int)) :: MatchK [] [] [] { t := [(0, .str s), (4, iA 0), (5, iA 0)], h := [] } (S71 s 0 0) :: (decide ((↑x.toNat : Int) = 48) = false) :: (decide (9 < (↑s.length : Int)) = false) :: (decide (1 < (↑s.length : Int)) = true) :: (decide (9 < (↑s.length : Int)) = false) :: (decide (1 < (↑s.length : Int)) = true) :: (s[0]? = some x) :: (d2 (decide (1 < (↑s.length : Int)) = true) (d4 (decide (9 < (↑s.length : Int)) = false) (d4 (decide ((↑s.length : Int) < 1) = false) [])))) := by kernel_rfl
theorem p71_4 (W : World) (s : List UInt8) (n : Int) : sfun Tryz.prog W { lp := true } 1000 5 101 [.str s] [] 100000 [bf, bf, bf, bf, bf, bf, bf, bf, bf, bf, bf, bf, bf, bf, ee, .loopM [] [] (S71 s 0 0) (.exit 0) (S71 s n (↑s.length : Int)), ee] [] = .ok (.ret (.tup [iA n, bA true]) [], [ee], LZ W [] 101 0 (S71 s 0 0) (.exit 0) (S71 s n (↑s.length : Int)) :: MatchK [] [] [] { t := [(0, .str s), (4, iA 0), (5, iA 0)], h := [] } (S71 s 0 0) :: (decide (9 < (↑s.length : Int)) = false) :: (decide (1 < (↑s.length : Int)) = false) :: (decide (9 < (↑s.length : Int)) = false) :: (d3 (decide (1 < (↑s.length : Int)) = false) (d4 (decide (9 < (↑s.length : Int)) = false) (d4 (decide ((↑s.length : Int) < 1) = false) [])))) := by kernel_rfl
theorem q71_3 (W : World) (s : List UInt8) (x : UInt8) : sfun Tryz.prog W { lp := true } 1000 5 101 [.str s] [] 100000 [bf, bf, bf, bf, bf, bf, bf, bf, bt, bt, aE 1, Ans.byt (some x), bt, bf, bt, bf, bf, ee, .loopM [] [] (S71 s 0 0) .ret R71, ee] [] = .ok (.ret (.tup [iA 0, bA false]) [], [ee], LZ W [] 101 0 (S71 s 0 0) .ret R71 :: MatchK [] [] [] { t := [(0, .str s), (4, iA 0), (5, iA 0)], h := [] } (S71 s 0 0) :: (decide ((↑x.toNat : Int) = 48) = false) :: (decide (9 < (↑s.length : Int)) = false) :: (decide (1 < (↑s.length : Int)) = true) :: (decide (9 < (↑s.length : Int)) = false) :: (decide (1 < (↑s.length : Int)) = true) :: (s[0]? = some x) :: (d2 (decide (1 < (↑s.length : Int)) = true) (d4 (decide (9 < (↑s.length : Int)) = false) (d4 (decide ((↑s.length : Int) < 1) = false) [])))) := by kernel_rfl
theorem q71_4 (W : World) (s : List UInt8) : sfun Tryz.prog W { lp := true } 1000 5 101 [.str s] [] 100000 [bf, bf, bf, bf, bf, bf, bf, bf, bf, bf, bf, bf, bf, bf, ee, .loopM [] [] (S71 s 0 0) .ret R71, ee] [] = .ok (.ret (.tup [iA 0, bA false]) [], [ee], LZ W [] 101 0 (S71 s 0 0) .ret R71 :: MatchK [] [] [] { t := [(0, .str s), (4, iA 0), (5, iA 0)], h := [] } (S71 s 0 0) :: (decide (9 < (↑s.length : Int)) = false) :: (decide (1 < (↑s.length : Int)) = false) :: (decide (9 < (↑s.length : Int)) = false) :: (d3 (decide (1 < (↑s.length : Int)) = false) (d4 (decide (9 < (↑s.length : Int)) = false) (d4 (decide ((↑s.length : Int) < 1) = false) [])))) := by kernel_rfl
theorem mixedz : Tryz.prog.follows .mixedOrders = true := by kernel_rfl
theorem call71 : callable Tryz.prog 101 = true := by kernel_rfl
section
variable (W : World) (s : List UInt8)
theorem loop71 (hl : s.length ≤ 9) (hd : s.all dig = true) : ∀ i : Nat, i ≤ s.length → LoopC Tryz.prog W [] (nslots Tryz.prog 101) (loopOf Tryz.prog 101 0) (S71 s (numL (s.take i) 0) i) (.exit 0) (S71 s (numL s 0) s.length) := by
  refine loopC_inv (fun i : Nat => S71 s (numL (s.take i) 0) i) (fun i => i ≤ s.length) (fun i => s.length - i) (by simp) ?_
  intro i h1
  by_cases hi : i < s.length
  · obtain ⟨x, hx⟩ := getOf hi
    left
    have hdx : dig x = true := List.all_eq_true.1 hd x (List.mem_of_getElem? hx)
    have hdi : (s.take i).all dig = true := List.all_eq_true.2 fun y hy => List.all_eq_true.1 hd y (List.mem_of_mem_take hy)
    simp only [dig, Bool.and_eq_true, decide_eq_true_eq] at hdx
    have hn := num_step hx (by omega) hdi (by omega) (by omega)
    exact ⟨i + 1, by omega, by omega, body_of_sbodyK mixedz (b71_2 W s _ i x) Fb1_z3 [] [] Fb1_z1⟩
  · right
    have hil : i = s.length := by omega
    subst hil
    rw [List.take_length]
    exact body_of_sbodyK mixedz (b71_3 W s _ s.length) Fb1_z3 [] [] Fb1_z1
theorem loopR71 (hd : s.all dig = false) (hl : s.length ≤ 9) : ∀ i : Nat, (i ≤ s.length ∧ (s.take i).all dig = true) → LoopC Tryz.prog W [] (nslots Tryz.prog 101) (loopOf Tryz.prog 101 0) (S71 s (numL (s.take i) 0) i) .ret R71 := by
  refine loopC_inv (fun i : Nat => S71 s (numL (s.take i) 0) i) (fun i => i ≤ s.length ∧ (s.take i).all dig = true) (fun i => s.length - i) (by simp) ?_
  rintro i ⟨h1, h2⟩
  by_cases hi : i < s.length
  · obtain ⟨x, hx⟩ := getOf hi
    by_cases hlo : (x.toNat : Int) < 48
    · exact .inr (body_of_sbodyK mixedz (b71_0 W s _ i x) Fb1_z3 [] [] Fb1_z1)
    by_cases hhi : 57 < (x.toNat : Int)
    · exact .inr (body_of_sbodyK mixedz (b71_1 W s _ i x) Fb1_z3 [] [] Fb1_z1)
    left
    have hn := num_step hx (by omega) h2 hlo hhi
    exact ⟨i + 1, ⟨by omega, all_take hx h2 (dig_in hlo hhi)⟩, by omega, body_of_sbodyK mixedz (b71_2 W s _ i x) Fb1_z3 [] [] Fb1_z1⟩
  · exfalso
    rw [List.take_of_length_le (by omega), hd] at h2; cases h2
theorem index71 : Pure Tryz.prog W 101 [.str s] (idxA s) := by
  have go : ∀ {r}, MutC Tryz.prog W 101 [.str s] [] (.ret r []) → r.clo = true → r = idxA s → Pure Tryz.prog W 101 [.str s] (idxA s) := fun h hc e => by subst e; exact pure_of_mut hc h
  by_cases h1 : (s.length : Int) < 1
  · exact go (mut_of_sfun mixedz call71 rfl (p71_0 W s) Fb1_z3) rfl (idxA_bad (idxOk_short h1))
  by_cases h2 : 9 < (s.length : Int)
  · exact go (mut_of_sfun mixedz call71 rfl (p71_1 W s) Fb1_z3) rfl (idxA_bad (idxOk_long h2))
  obtain ⟨x, hx⟩ := getOf (l := s) (i := 0) (by omega)
  have hx0 : (s.headD 0) = x := by cases s with
    | nil => simp at hx
    | cons a l => simpa using hx
  by_cases h3 : 1 < (s.length : Int) ∧ (x.toNat : Int) = 48
  · obtain ⟨h3, h4⟩ := h3
    exact go (mut_of_sfun mixedz call71 rfl (p71_2 W s x) Fb1_z3) rfl (idxA_bad (idxOk_zero h3 (by rw [hx0]; exact h4)))
  have h3' : ¬ 1 < (s.length : Int) ∨ ¬ ((s.headD 0).toNat : Int) = 48 := by rw [hx0]; omega
  by_cases hd : s.all dig = true
  · have hlp := loop71 W s (by omega) hd 0 (by omega)
    rw [List.take_zero] at hlp
    have hg := idxOk_good h1 h2 h3' hd
    by_cases h5 : 1 < (s.length : Int)
    · exact go (mut_of_sfun mixedz call71 rfl (p71_3 W s x (numL s 0)) Fb1_z4) rfl (idxA_good hg rfl)
    · exact go (mut_of_sfun mixedz call71 rfl (p71_4 W s (numL s 0)) Fb1_z4) rfl (idxA_good hg rfl)
  · have hd' : s.all dig = false := by simpa using hd
    have hlp := loopR71 W s hd' (by omega) 0 ⟨by omega, by simp⟩
    rw [List.take_zero] at hlp
    obtain ⟨y, hy, hyd⟩ := List.all_eq_false.1 hd'
    obtain ⟨k, hk⟩ := List.getElem?_of_mem hy
    have hb := idxOk_dig hk (by simpa using hyd)
    by_cases h5 : 1 < (s.length : Int)
    · exact go (mut_of_sfun mixedz call71 rfl (q71_3 W s x) Fb1_z4) rfl (idxA_bad hb)
    · exact go (mut_of_sfun mixedz call71 rfl (q71_4 W s) Fb1_z4) rfl (idxA_bad hb)
end
end Go.Ac

