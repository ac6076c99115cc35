/- What is proved: contracts of functions of this translation, walked; their plain meaning. No condition beyond those that each theorem names. -/
import Derived.Test.YtdalodgajiodhaaGreatDoorIHFb2
set_option linter.all false
namespace Go.Ac
open Go Go.Proofs
set_option maxRecDepth 10000
set_option maxHeartbeats 1000000
theorem Fb3_z1 {kp f ph σ σ'} (h : MatchK kp f ph σ σ' := by exact ⟨by rfl, (by simp only [S162, S91, R91, tOK, List.map_cons, List.map_nil, and_true] <;> exact zt), (by simp only [S162, S91, R91, hOK, List.map_cons, List.map_nil, and_true] <;> exact zh), (by simp only [S162, S91, R91, liveT, List.map_cons, List.map_nil, and_true] <;> exact zv), (by simp only [S162, S91, R91, liveH, List.map_cons, List.map_nil, and_true] <;> exact zv)⟩) : MatchK kp f ph σ σ' := h
theorem Fb3_z4 {cs} (h : Holds cs := by simp only [Holds, and_true] <;> and_intros <;> first | exact zd | (simp only [Bool.not_eq_true', decide_eq_false_iff_not, Bool.not_eq_false', decide_eq_true_eq, List.length_map, encVs_len, List.length_cons, bytesA]; first | assumption | omega; done)) : Holds cs := h
theorem Fb3_z5 {cs} (h : Holds cs := by simp only [Holds, and_true] <;> and_intros <;> first | exact zd | (simp only [Bool.not_eq_true', decide_eq_false_iff_not, Bool.not_eq_false', decide_eq_true_eq, List.length_map, encVs_len, List.length_cons, bytesA]; first | assumption | omega; done) | exact Fb3_z1) : Holds cs := h
def S162 (s : List UInt8) (n i : Int) : AS := ⟨[(5, .str s), (6, iA n), (47, .sl 1 (bytesA s) []), (48, iA (bytesA s).length), (49, iA i)], []⟩
def S91 (s : List UInt8) (i : Int) : AS := ⟨[(0, .str s), (25, iA s.length), (26, iA i)], []⟩
def R91 : AS := ⟨[(2, .val (.int .i64 0)), (3, .val (.bool false))], []⟩
theorem b162_0 (W : World) (s : List UInt8) (x : UInt8) (n i : Int) : sQ W { lp := true } 103 0 [] [5, 6, 47, 48, 49] (S162 s n i) [bt, .lg, oS (.val (Value.int IntKind.u8 (↑x.toNat : Int))), bf, ee] = .ok ((.normal, { t := [(5, .str s), (6, iA (IntKind.i64.wrap (IntKind.i64.wrap (n * 10) + IntKind.i64.wrap (IntKind.u8.wrap ((↑x.toNat : Int) - 48))))), (47, sL 1 (bytesA s)), (48, iA (↑(bytesA s).length : Int)), (49, iA (IntKind.i64.wrap (i + 1)))], h := [] }), [ee], [decide (9 < IntKind.u8.wrap ((↑x.toNat : Int) - 48)) = false, (bytesA s)[i.toNat]? = some (AV.val (Value.int IntKind.u8 (↑x.toNat : Int))), 0 ≤ i, decide (i < (↑(bytesA s).length : Int)) = true]) := by kernel_rfl
theorem b162_1 (W : World) (s : List UInt8) (n i : Int) : sbodyM Tryz.prog W { lp := true } 103 0 [] (S162 s n i) [bf, ee] = .ok ((.exit 0, { t := [(5, .str s), (6, iA n), (47, sL 1 (bytesA s)), (48, iA (↑(bytesA s).length : Int)), (49, iA i), (50, bA (decide (i < (↑(bytesA s).length : Int))))], h := [] }), [ee], [decide (i < (↑(bytesA s).length : Int)) = false]) := by kernel_rfl
theorem p162_0 (W : World) (s : List UInt8) (x : UInt8) (n : Int) : sF W { lp := true } 103 [.str s] [] 100000 [aE 9, bt, bt, aE 1, bt, aE 3, bt, aE 1, Ans.byt (some x), bf, bf, aE 1, Ans.byt (some x), bf, bf, bf, .lg, ee, .loopM [] [] (S162 s 0 0) (.exit 0) (S162 s n (↑s.length : Int)), aE 1, Ans.byt (some x), bf, ee] [] = .ok (.ret (.tup [iA n, .val Value.nilIface]) [], [ee], (decide ((↑x.toNat : Int) = 45) = false) :: (s[0]? = some x) :: LZ W [] 103 0 (S162 s 0 0) (.exit 0) (S162 s n (↑s.length : Int)) :: MatchK [] [] [] { t := [(5, .str s), (6, iA 0), (47, sL 1 (bytesA s)), (48, iA (↑(bytesA s).length : Int)), (49, iA 0)], h := [] } (S162 s 0 0) :: (s.length ≤ 9223372036854775807) :: (decide ((↑x.toNat : Int) = 43) = false) :: (d2 (decide ((↑x.toNat : Int) = 45) = false) ((s[0]? = some x) :: (d2 (decide ((↑x.toNat : Int) = 45) = false) ((s[0]? = some x) :: (decide ((↑s.length : Int) < 19) = true) :: (d3 (decide (0 < (↑s.length : Int)) = true) [])))))) := by kernel_rfl
theorem p135_0 (W : World) (s : List UInt8) (n : Int) : sF W { lp := true, tl := [103] } 87 [.str s] [] 100000 [ee, cR (.tup [iA n, .val Value.nilIface]) [], ee] [] = .ok (.ret (.tup [iA n, .val Value.nilIface]) [], [aE 9999999], [MZ W 103 [.str s] [] (.ret (.tup [iA n, .val Value.nilIface]) [])]) := by kernel_rfl
theorem b91_0 (W : World) (s : List UInt8) (x : UInt8) (i : Int) : sQ W { lp := true } 56 0 [] [0, 2, 3, 25, 26] (S91 s i) [bt, .lg, Ans.byt (some x), bt, bt, bt, bt, bt, ee] = .ok ((.ret, { t := [(0, .str s), (2, iA 0), (3, bA false), (25, iA (↑s.length : Int)), (26, iA i)], h := [] }), [aE 9999999], (decide ((↑x.toNat : Int) < 48) = true) :: (d4 (decide ((↑x.toNat : Int) < 48) = true) [s[i.toNat]? = some x, 0 ≤ i, decide (i < (↑s.length : Int)) = true])) := by kernel_rfl
theorem b91_1 (W : World) (s : List UInt8) (x : UInt8) (i : Int) : sQ W { lp := true } 56 0 [] [0, 2, 3, 25, 26] (S91 s i) [bt, .lg, Ans.byt (some x), bf, bf, bf, .lg, Ans.byt (some x), bf, bf, bt, ee] = .ok ((.ret, { t := [(0, .str s), (2, iA 0), (3, bA false), (25, iA (↑s.length : Int)), (26, iA i)], h := [] }), [ee], (decide (57 < (↑x.toNat : Int)) = true) :: (d2 (decide ((↑x.toNat : Int) < 48) = false) ((s[i.toNat]? = some x) :: (0 ≤ i) :: (d3 (decide ((↑x.toNat : Int) < 48) = false) [s[i.toNat]? = some x, 0 ≤ i, decide (i < (↑s.length : Int)) = true])))) := by kernel_rfl
theorem b91_2 (W : World) (s : List UInt8) (x : UInt8) (i : Int) : sQ W { lp := true } 56 0 [] [0, 2, 3, 25, 26] (S91 s i) [bt, .lg, Ans.byt (some x), bf, bf, bf, .lg, Ans.byt (some x), bf, bf, bf, ee] = .ok ((.normal, { t := [(0, .str s), (25, iA (↑s.length : Int)), (26, iA (IntKind.i64.wrap (i + 1)))], h := [] }), [ee], (decide (57 < (↑x.toNat : Int)) = false) :: (d2 (decide ((↑x.toNat : Int) < 48) = false) ((s[i.toNat]? = some x) :: (0 ≤ i) :: (d3 (decide ((↑x.toNat : Int) < 48) = false) [s[i.toNat]? = some x, 0 ≤ i, decide (i < (↑s.length : Int)) = true])))) := by kernel_rfl
theorem b91_3 (W : World) (s : List UInt8) (i : Int) : sQ W { lp := true } 56 0 [] [0, 2, 3, 25, 26] (S91 s i) [bf, ee] = .ok ((.exit 0, { t := [(0, .str s), (25, iA (↑s.length : Int)), (26, iA i)], h := [] }), [ee], [decide (i < (↑s.length : Int)) = false]) := by kernel_rfl
theorem p91_0 (W : World) (s : List UInt8) : sF W { lp := true, tl := [87] } 56 [.str s] [] 100000 [bt, bt, bt, bt, ee] [] = .ok (.ret (.tup [iA 0, bA false]) [], [aE 9999993], d4 (decide ((↑s.length : Int) < 1) = true) []) := by kernel_rfl
theorem p91_1 (W : World) (s : List UInt8) : sF W { lp := true, tl := [87] } 56 [.str s] [] 100000 [bf, bf, bf, bf, bt, bt, bt, bt, bt, bt, ee] [] = .ok (.ret (.tup [iA 0, bA false]) [], [aE 9999999], d6 (decide (9 < (↑s.length : Int)) = true) (d4 (decide ((↑s.length : Int) < 1) = false) [])) := by kernel_rfl
theorem p91_2 (W : World) (s : List UInt8) (x : UInt8) : sF W { lp := true, tl := [87] } 56 [.str s] [] 100000 [bf, bf, bf, bf, bf, bf, aE 1, Ans.byt (some x), bf, bf, bt, bt, bf, bt, bf, bt, ee] [] = .ok (.ret (.tup [iA 0, bA false]) [], [ee], ((!decide (s = [48])) = true) :: (decide (9 < (↑s.length : Int)) = false) :: (decide ((↑x.toNat : Int) = 48) = true) :: (decide (9 < (↑s.length : Int)) = false) :: (d2 (decide ((↑x.toNat : Int) = 48) = true) (d2 (decide (9 < (↑s.length : Int)) = false) ((s[0]? = some x) :: (d2 (decide (9 < (↑s.length : Int)) = false) (d4 (decide ((↑s.length : Int) < 1) = false) [])))))) := by kernel_rfl
theorem p91_3 (W : World) (s : List UInt8) (x : UInt8) (n : Int) : sF W { lp := true, tl := [87] } 56 [.str s] [] 100000 [bf, bf, bf, bf, bf, bf, aE 1, Ans.byt (some x), bf, bf, bt, bt, bf, bt, bf, bf, ee, .loopM [] [] (S91 s 0) (.exit 0) (S91 s (↑s.length : Int)), ee, cR (.tup [iA n, .val Value.nilIface]) [], ee] [] = .ok (.ret (.tup [iA n, bA true]) [], [ee], MZ W 87 [.str s] [] (.ret (.tup [iA n, .val Value.nilIface]) []) :: LZ W [] 56 0 (S91 s 0) (.exit 0) (S91 s (↑s.length : Int)) :: MatchK [] [] [] { t := [(0, .str s), (25, iA (↑s.length : Int)), (26, iA 0)], h := [] } (S91 s 0) :: ((!decide (s = [48])) = false) :: (decide (9 < (↑s.length : Int)) = false) :: (decide ((↑x.toNat : Int) = 48) = true) :: (decide (9 < (↑s.length : Int)) = false) :: (d2 (decide ((↑x.toNat : Int) = 48) = true) (d2 (decide (9 < (↑s.length : Int)) = false) ((s[0]? = some x) :: (d2 (decide (9 < (↑s.length : Int)) = false) (d4 (decide ((↑s.length : Int) < 1) = false) [])))))) := by kernel_rfl
theorem p91_4 (W : World) (s : List UInt8) (x : UInt8) (n : Int) : sF W { lp := true, tl := [87] } 56 [.str s] [] 100000 [bf, bf, bf, bf, bf, bf, aE 1, Ans.byt (some x), bf, bf, bf, bf, bf, bf, bf, ee, .loopM [] [] (S91 s 0) (.exit 0) (S91 s (↑s.length : Int)), ee, cR (.tup [iA n, .val Value.nilIface]) [], ee] [] = .ok (.ret (.tup [iA n, bA true]) [], [ee], MZ W 87 [.str s] [] (.ret (.tup [iA n, .val Value.nilIface]) []) :: LZ W [] 56 0 (S91 s 0) (.exit 0) (S91 s (↑s.length : Int)) :: MatchK [] [] [] { t := [(0, .str s), (25, iA (↑s.length : Int)), (26, iA 0)], h := [] } (S91 s 0) :: (decide (9 < (↑s.length : Int)) = false) :: (decide ((↑x.toNat : Int) = 48) = false) :: (decide (9 < (↑s.length : Int)) = false) :: (d2 (decide ((↑x.toNat : Int) = 48) = false) (d2 (decide (9 < (↑s.length : Int)) = false) ((s[0]? = some x) :: (d2 (decide (9 < (↑s.length : Int)) = false) (d4 (decide ((↑s.length : Int) < 1) = false) [])))))) := by kernel_rfl
theorem q91_3 (W : World) (s : List UInt8) (x : UInt8) : sF W { lp := true, tl := [87] } 56 [.str s] [] 100000 [bf, bf, bf, bf, bf, bf, aE 1, Ans.byt (some x), bf, bf, bt, bt, bf, bt, bf, bf, ee, .loopM [] [] (S91 s 0) .ret R91, ee] [] = .ok (.ret (.tup [iA 0, bA false]) [], [ee], LZ W [] 56 0 (S91 s 0) .ret R91 :: MatchK [] [] [] { t := [(0, .str s), (25, iA (↑s.length : Int)), (26, iA 0)], h := [] } (S91 s 0) :: ((!decide (s = [48])) = false) :: (decide (9 < (↑s.length : Int)) = false) :: (decide ((↑x.toNat : Int) = 48) = true) :: (decide (9 < (↑s.length : Int)) = false) :: (d2 (decide ((↑x.toNat : Int) = 48) = true) (d2 (decide (9 < (↑s.length : Int)) = false) ((s[0]? = some x) :: (d2 (decide (9 < (↑s.length : Int)) = false) (d4 (decide ((↑s.length : Int) < 1) = false) [])))))) := by kernel_rfl
theorem q91_4 (W : World) (s : List UInt8) (x : UInt8) : sF W { lp := true, tl := [87] } 56 [.str s] [] 100000 [bf, bf, bf, bf, bf, bf, aE 1, Ans.byt (some x), bf, bf, bf, bf, bf, bf, bf, ee, .loopM [] [] (S91 s 0) .ret R91, ee] [] = .ok (.ret (.tup [iA 0, bA false]) [], [ee], LZ W [] 56 0 (S91 s 0) .ret R91 :: MatchK [] [] [] { t := [(0, .str s), (25, iA (↑s.length : Int)), (26, iA 0)], h := [] } (S91 s 0) :: (decide (9 < (↑s.length : Int)) = false) :: (decide ((↑x.toNat : Int) = 48) = false) :: (decide (9 < (↑s.length : Int)) = false) :: (d2 (decide ((↑x.toNat : Int) = 48) = false) (d2 (decide (9 < (↑s.length : Int)) = false) ((s[0]? = some x) :: (d2 (decide (9 < (↑s.length : Int)) = false) (d4 (decide ((↑s.length : Int) < 1) = false) [])))))) := by kernel_rfl
theorem call162 : callable Tryz.prog 103 = true := by kernel_rfl
theorem call135 : callable Tryz.prog 87 = true := by kernel_rfl
theorem call91 : callable Tryz.prog 56 = true := by kernel_rfl
theorem bytes_get {s : List UInt8} {i : Nat} {x : UInt8} (h : s[i]? = some x) : (bytesA s)[i]? = some (.val (.int .u8 x.toNat)) := by simp [bytesA, h]
section
variable (W : World) (s : List UInt8)
theorem dig_bd {x : UInt8} (h : dig x = true) : ¬ ((x.toNat : Int) < 48) ∧ ¬ (57 < (x.toNat : Int)) := by simp only [dig, Bool.and_eq_true, decide_eq_true_eq] at h; omega
theorem loop162 (hl : s.length ≤ 9) (hd : s.all dig = true) : ∀ i : Nat, i ≤ s.length → LoopC Tryz.prog W [] (nslots Tryz.prog 103) (loopOf Tryz.prog 103 0) (S162 s (numL (s.take i) 0) i) (.exit 0) (S162 s (numL s 0) s.length) := by
  refine loopC_inv (fun i : Nat => S162 s (numL (s.take i) 0) i) (fun i => i ≤ s.length) (fun i => s.length - i) (by simp) ?_
  intro i h1
  have hbl : (bytesA s).length = s.length := by simp [bytesA]
  by_cases hi : i < s.length
  · obtain ⟨x, hx⟩ := getOf hi
    left
    have hdx := dig_bd (List.all_eq_true.1 hd x (List.mem_of_getElem? hx))
    have hdi : (s.take i).all dig = true := List.all_eq_true.2 fun y hy => List.all_eq_true.1 hd y (List.mem_of_mem_take hy)
    have hn := num_step hx (by omega) hdi (by omega) (by omega)
    rw [Int.mul_comm] at hn
    have hw : IntKind.u8.wrap ((x.toNat : Int) - 48) = (x.toNat : Int) - 48 := IntWalk.u8_in _ (by omega)
    have h9 : decide (9 < IntKind.u8.wrap ((x.toNat : Int) - 48)) = false := by rw [hw]; exact decide_eq_false (by omega)
    exact ⟨i + 1, by omega, by omega, body_of_sbodyK mixedz (b162_0 W s x _ i) Fb3_z4 [] [] Fb3_z1⟩
  · right
    have hil : i = s.length := by omega
    subst hil
    rw [List.take_length]
    exact body_of_sbodyM mixedz (b162_1 W s _ s.length) Fb3_z4 [] [] Fb3_z1
theorem atoi162 (h0 : s ≠ []) (hl : s.length ≤ 9) (hd : s.all dig = true) : Pure Tryz.prog W 103 [.str s] (.tup [iA (numL s 0), .val .nilIface]) := by
  have hp : 0 < s.length := List.length_pos_iff.2 h0
  obtain ⟨x, hx⟩ := getOf (l := s) (i := 0) hp
  have hdx := dig_bd (List.all_eq_true.1 hd x (List.mem_of_getElem? hx))
  have hlp := loop162 W s hl hd 0 (by omega)
  rw [List.take_zero] at hlp
  exact goB rfl rfl (mut_of_sfun mixedz call162 rfl (p162_0 W s x (numL s 0)) Fb3_z5)
theorem atoi135 (h0 : s ≠ []) (hl : s.length ≤ 9) (hd : s.all dig = true) : Pure Tryz.prog W 87 [.str s] (.tup [iA (numL s 0), .val .nilIface]) := by
  have hc := mut_of_pure (by rfl) (atoi162 W s h0 hl hd)
  exact goB rfl rfl (mut_of_sfun mixedz call135 rfl (p135_0 W s (numL s 0)) Fb3_z4)
theorem loop91 (hl : s.length ≤ 9) (hd : s.all dig = true) : ∀ i : Nat, i ≤ s.length → LoopC Tryz.prog W [] (nslots Tryz.prog 56) (loopOf Tryz.prog 56 0) (S91 s i) (.exit 0) (S91 s s.length) := by
  refine loopC_inv (fun i : Nat => S91 s i) (fun i => i ≤ s.length) (fun i => s.length - i) (by simp) ?_
  intro i h1
  by_cases hi : i < s.length
  · obtain ⟨x, hx⟩ := getOf hi
    left
    have hdx := dig_bd (List.all_eq_true.1 hd x (List.mem_of_getElem? hx))
    exact ⟨i + 1, by omega, by omega, body_of_sbodyK mixedz (b91_2 W s x i) Fb3_z4 [] [] Fb3_z1⟩
  · right
    have hil : i = s.length := by omega
    subst hil
    exact body_of_sbodyK mixedz (b91_3 W s s.length) Fb3_z4 [] [] Fb3_z1
theorem loopR91 (hd : s.all dig = false) (hl : s.length ≤ 9) : ∀ i : Nat, (i ≤ s.length ∧ (s.take i).all dig = true) → LoopC Tryz.prog W [] (nslots Tryz.prog 56) (loopOf Tryz.prog 56 0) (S91 s i) .ret R91 := by
  refine loopC_inv (fun i : Nat => S91 s i) (fun i => i ≤ s.length ∧ (s.take i).all dig = true) (fun i => s.length - i) (by simp) ?_
  rintro i ⟨h1, h2⟩
  by_cases hi : i < s.length
  · obtain ⟨x, hx⟩ := getOf hi
    by_cases hlo : (x.toNat : Int) < 48
    · exact .inr (body_of_sbodyK mixedz (b91_0 W s x i) Fb3_z4 [] [] Fb3_z1)
    by_cases hhi : 57 < (x.toNat : Int)
    · exact .inr (body_of_sbodyK mixedz (b91_1 W s x i) Fb3_z4 [] [] Fb3_z1)
    left
    exact ⟨i + 1, ⟨by omega, all_take hx h2 (dig_in hlo hhi)⟩, by omega, body_of_sbodyK mixedz (b91_2 W s x i) Fb3_z4 [] [] Fb3_z1⟩
  · exfalso
    rw [List.take_of_length_le (by omega), hd] at h2; cases h2
theorem index91 : Pure Tryz.prog W 56 [.str s] (idxA s) := by
  by_cases h1 : (s.length : Int) < 1
  · exact goB (idxA_bad (idxOk_short h1)) rfl (mut_of_sfun mixedz call91 rfl (p91_0 W s) Fb3_z4)
  by_cases h2 : 9 < (s.length : Int)
  · exact goB (idxA_bad (idxOk_long h2)) rfl (mut_of_sfun mixedz call91 rfl (p91_1 W s) Fb3_z4)
  obtain ⟨x, hx⟩ := getOf (l := s) (i := 0) (by omega)
  have hx0 : (s.headD 0) = x := by cases s with
    | nil => simp at hx
    | cons a l => simpa using hx
  by_cases h3 : (x.toNat : Int) = 48 ∧ ¬ s = [48]
  · obtain ⟨h4, h3⟩ := h3
    exact goB (idxA_bad (idxOk_zero2 h1 h3 (by rw [hx0]; exact h4))) rfl (mut_of_sfun mixedz call91 rfl (p91_2 W s x) Fb3_z4)
  have h3' : ¬ 1 < (s.length : Int) ∨ ¬ ((s.headD 0).toNat : Int) = 48 := by
    rw [hx0]
    by_cases e : (x.toNat : Int) = 48
    · left
      have e2 : s = [48] := Classical.byContradiction fun q => h3 ⟨e, q⟩
      rw [e2]; simp
    · exact .inr e
  by_cases hd : s.all dig = true
  · have hlp := loop91 W s (by omega) hd 0 (by omega)
    have hg := idxOk_good h1 h2 h3' hd
    have hc := mut_of_pure (by rfl) (atoi135 W s (by rintro rfl; simp at h1) (by omega) hd)
    by_cases h5 : (x.toNat : Int) = 48
    · have h6 : s = [48] := Classical.byContradiction fun q => h3 ⟨h5, q⟩
      have h7 : (!decide (s = [48])) = false := by rw [decide_eq_true h6]; rfl
      exact goB (idxA_good hg rfl) rfl (mut_of_sfun mixedz call91 rfl (p91_3 W s x (numL s 0)) Fb3_z5)
    · exact goB (idxA_good hg rfl) rfl (mut_of_sfun mixedz call91 rfl (p91_4 W s x (numL s 0)) Fb3_z5)
  · have hd' : s.all dig = false := by simpa using hd
    have hlp := loopR91 W s hd' (by omega) 0 ⟨by omega, by simp⟩
    obtain ⟨y, hy, hyd⟩ := List.all_eq_false.1 hd'
    obtain ⟨k, hk⟩ := List.getElem?_of_mem hy
    have hb := idxOk_dig hk (by simpa using hyd)
    by_cases h5 : (x.toNat : Int) = 48
    · have h6 : s = [48] := Classical.byContradiction fun q => h3 ⟨h5, q⟩
      have h7 : (!decide (s = [48])) = false := by rw [decide_eq_true h6]; rfl
      exact goB (idxA_bad hb) rfl (mut_of_sfun mixedz call91 rfl (q91_3 W s x) Fb3_z5)
    · exact goB (idxA_bad hb) rfl (mut_of_sfun mixedz call91 rfl (q91_4 W s x) Fb3_z5)
end
theorem child137 (W : World) (h : JH) (l : List JV) (s : List UInt8) (hl : h.names.length ≤ 2 ^ 50) : Pure Tryz.prog W 76 [encV (.mk h l), .str s] (iA ((JV.mk h l).child s)) := by
  have hc := mut_of_pure (by rfl) (index91 W s)
  by_cases hk : h.kind = 6
  · have e1 : (JV.mk h l).child s = (JV.mk h l).place s := child_obj hk
    rw [e1]
    have hc2 := mut_of_pure (by simp only [cloL, encV_clo]; rfl) (place164 W h l s hl)
    exact goB rfl rfl (mut_of_sfun mixedz call137 rfl (p137_0 W h l s ((JV.mk h l).place s)) Fb3_z4)
  by_cases hk5 : h.kind = 5
  case neg => exact goB (by rw [child_none (j := .mk h l) hk (by rintro ⟨q, _⟩; exact hk5 q)] <;> rfl) rfl (mut_of_sfun mixedz call137 rfl (p137_4 W h l s) Fb3_z4)
  cases hx : idxOk s with
  | false => exact goB (by rw [child_none (j := .mk h l) hk (by rintro ⟨_, q, _⟩; rw [hx] at q; cases q)] <;> rfl) rfl (mut_of_sfun mixedz call137 rfl (p137_3 W h l s) Fb3_z4)
  | true =>
    by_cases hi : (idx s : Int) < (l.length : Int)
    · exact goB (by rw [child_ix (j := .mk h l) hk5 hx hi] <;> rfl) rfl (mut_of_sfun mixedz call137 rfl (p137_1 W h l s) Fb3_z4)
    · exact goB (by rw [child_none (j := .mk h l) hk (by rintro ⟨_, _, q⟩; exact hi q)] <;> rfl) rfl (mut_of_sfun mixedz call137 rfl (p137_2 W h l s) Fb3_z4)
end Go.Ac

