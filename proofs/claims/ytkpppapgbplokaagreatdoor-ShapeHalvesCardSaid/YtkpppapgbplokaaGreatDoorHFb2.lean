/- What is proved: contracts of functions of this translation, walked; their plain meaning. No condition beyond those that each theorem names. -/
import Derived.Test.YtkpppapgbplokaaGreatDoorHFb1
set_option linter.all false
namespace Go.Ac
open Go Go.Proofs
set_option maxRecDepth 10000
set_option maxHeartbeats 1000000
theorem Fb2_z1 {kp f ph σ σ'} (h : MatchK kp f ph σ σ' := by exact ⟨by rfl, (by simp only [S68, R68, S164, R164, S72, tOK, List.map_cons, List.map_nil, and_true] <;> exact zt), (by simp only [S68, R68, S164, R164, S72, hOK, List.map_cons, List.map_nil, and_true] <;> exact zh), (by simp only [S68, R68, S164, R164, S72, liveT, List.map_cons, List.map_nil, and_true] <;> exact zv), (by simp only [S68, R68, S164, R164, S72, liveH, List.map_cons, List.map_nil, and_true] <;> exact zv)⟩) : MatchK kp f ph σ σ' := h
theorem Fb2_z4 {cs} (h : Holds cs := by simp only [Holds, and_true] <;> and_intros <;> first | exact zd | (simp only [Bool.not_eq_true', decide_eq_false_iff_not, Bool.not_eq_false', decide_eq_true_eq, ixbB_eq Tryz.prog, List.length_map, encVs_len, List.length_cons]; first | assumption | omega; done)) : Holds cs := h
theorem Fb2_z5 {cs} (h : Holds cs := by simp only [Holds, and_true] <;> and_intros <;> first | exact zd | (simp only [Bool.not_eq_true', decide_eq_false_iff_not, Bool.not_eq_false', decide_eq_true_eq, ixbB_eq Tryz.prog, List.length_map, encVs_len, List.length_cons]; first | assumption | omega; done) | exact Fb2_z1) : Holds cs := h
def S68 (s : List UInt8) (i : Int) : AS := ⟨[(0, .str s), (3, iA i)], []⟩
def R68 (b : Bool) : AS := ⟨[(2, .val (.bool b))], []⟩
def S164 (h : JH) (l : List JV) (s : List UInt8) (m i : Int) : AS := ⟨[(1, .str s), (2, .gp 100000 0), (7, iA m), (8, iA i)], [(100000, .box (encV (.mk h l)) .own)]⟩
def R164 (i : Int) : AS := ⟨[(4, iA i)], []⟩
def S72 (h : JH) (l : List JV) (s : List UInt8) (i : Int) : AS := ⟨[(1, .str s), (2, .gp 100000 0), (5, iA i)], [(100000, .box (encV (.mk h l)) .own)]⟩
theorem b68_0 (W : World) (s : List UInt8) (i : Int) (x : UInt8) : sQ W { lp := true } 32 0 [] [0, 2, 3, 4] (S68 s i) [bt, .lg, Ans.byt (some x), bt, ee] = .ok ((.ret, { t := [(0, .str s), (2, bA false), (3, iA i), (4, iA i)], h := [] }), [ee], [decide ((↑x.toNat : Int) = 46) = true, s[i.toNat]? = some x, 0 ≤ i, decide (i < (↑s.length : Int)) = true]) := by kernel_rfl
theorem b68_1 (W : World) (s : List UInt8) (i : Int) (x : UInt8) : sQ W { lp := true } 32 0 [] [0, 2, 3] (S68 s i) [bt, .lg, Ans.byt (some x), bf, ee] = .ok ((.normal, { t := [(0, .str s), (3, iA (IntKind.i64.wrap (i + 1)))], h := [] }), [ee], [decide ((↑x.toNat : Int) = 46) = false, s[i.toNat]? = some x, 0 ≤ i, decide (i < (↑s.length : Int)) = true]) := by kernel_rfl
theorem b68_2 (W : World) (s : List UInt8) (i : Int) : sQ W { lp := true } 32 0 [] [0, 2, 3, 4] (S68 s i) [bf, ee] = .ok ((.exit 0, { t := [(0, .str s), (3, iA i), (4, iA i)], h := [] }), [ee], [decide (i < (↑s.length : Int)) = false]) := by kernel_rfl
theorem p68_0 (W : World) (s : List UInt8) (x : UInt8) : sF W { lp := true } 32 [.str s] [] 100000 [ee, .loopM [] [] (S68 s 0) (.exit 0) (S68 s (↑s.length : Int)), bt, bt, bt, bt, bt, bt, aE 1, Ans.byt (some x), bt, bt, ee] [] = .ok (.ret (bA (!decide ((↑x.toNat : Int) = 36))) [], [ee], d2 (decide ((↑s.length : Int) ≤ 64) = true) ((s[0]? = some x) :: (d2 (decide ((↑s.length : Int) ≤ 64) = true) (d4 (decide (1 ≤ (↑s.length : Int)) = true) [LZ W [] 32 0 (S68 s 0) (.exit 0) (S68 s (↑s.length : Int)), MatchK [] [] [] { t := [(0, .str s), (3, iA 0)], h := [] } (S68 s 0)])))) := by kernel_rfl
theorem p68_1 (W : World) (s : List UInt8) : sF W { lp := true } 32 [.str s] [] 100000 [ee, .loopM [] [] (S68 s 0) (.exit 0) (S68 s (↑s.length : Int)), bt, bt, bt, bt, bf, bf, bf, bf, ee] [] = .ok (.ret (bA false) [], [ee], d4 (decide ((↑s.length : Int) ≤ 64) = false) (d4 (decide (1 ≤ (↑s.length : Int)) = true) [LZ W [] 32 0 (S68 s 0) (.exit 0) (S68 s (↑s.length : Int)), MatchK [] [] [] { t := [(0, .str s), (3, iA 0)], h := [] } (S68 s 0)])) := by kernel_rfl
theorem p68_2 (W : World) (s : List UInt8) : sF W { lp := true } 32 [.str s] [] 100000 [ee, .loopM [] [] (S68 s 0) (.exit 0) (S68 s (↑s.length : Int)), bf, bf, bf, bf, ee] [] = .ok (.ret (bA false) [], [aE 9999996], d4 (decide (1 ≤ (↑s.length : Int)) = false) [LZ W [] 32 0 (S68 s 0) (.exit 0) (S68 s (↑s.length : Int)), MatchK [] [] [] { t := [(0, .str s), (3, iA 0)], h := [] } (S68 s 0)]) := by kernel_rfl
theorem q68_0 (W : World) (s : List UInt8) : sF W { lp := true } 32 [.str s] [] 100000 [ee, .loopM [] [] (S68 s 0) .ret (R68 false), ee] [] = .ok (.ret (bA false) [], [ee], [LZ W [] 32 0 (S68 s 0) .ret (R68 false), MatchK [] [] [] { t := [(0, .str s), (3, iA 0)], h := [] } (S68 s 0)]) := by kernel_rfl
theorem b72_0 (W : World) (h : JH) (l : List JV) (s : List UInt8) (i : Int) (x : List UInt8) : sbodyM Tryz.prog W { lp := true } 33 0 [] (S72 h l s i) [aE 1, bt, bt, .lg, oS (.str x), bt, ee] = .ok ((.ret, { t := [(1, .str s), (2, .gp 100000 0), (4, iA i), (5, iA i), (11, iA i), (12, eV h l), (13, iA (↑(List.map AV.str h.names).length : Int)), (14, bA (decide (i < (↑(List.map AV.str h.names).length : Int)))), (17, .gp 100000 3), (18, sL 1 (List.map AV.str h.names)), (19, iA i), (20, (AV.str x).ip 0), (21, .str x), (22, .str s), (23, bA (decide (x = s))), (24, iA i)], h := [(100000, gB (eV h l))] }), [ee], [decide (x = s) = true, (List.map AV.str h.names)[i.toNat]? = some (AV.str x), 0 ≤ i, decide (i < (↑(List.map AV.str h.names).length : Int)) = true, decide ((↑(List.map AV.str h.names).length : Int) < (↑(encVs l).length : Int)) = true]) := by kernel_rfl
theorem b72_1 (W : World) (h : JH) (l : List JV) (s : List UInt8) (i : Int) (x : List UInt8) : sQ W { lp := true } 33 0 [] [1, 2, 5] (S72 h l s i) [aE 1, bt, bt, .lg, oS (.str x), bf, ee] = .ok ((.normal, { t := [(1, .str s), (2, .gp 100000 0), (5, iA (IntKind.i64.wrap (i + 1)))], h := [(100000, gB (eV h l))] }), [ee], [decide (x = s) = false, (List.map AV.str h.names)[i.toNat]? = some (AV.str x), 0 ≤ i, decide (i < (↑(List.map AV.str h.names).length : Int)) = true, decide ((↑(List.map AV.str h.names).length : Int) < (↑(encVs l).length : Int)) = true]) := by kernel_rfl
theorem b72_2 (W : World) (h : JH) (l : List JV) (s : List UInt8) (i : Int) : sbodyM Tryz.prog W { lp := true } 33 0 [] (S72 h l s i) [aE 1, bt, bf, ee] = .ok ((.exit 0, { t := [(1, .str s), (2, .gp 100000 0), (5, iA i), (11, iA i), (12, eV h l), (13, iA (↑(List.map AV.str h.names).length : Int)), (14, bA (decide (i < (↑(List.map AV.str h.names).length : Int))))], h := [(100000, gB (eV h l))] }), [ee], [decide (i < (↑(List.map AV.str h.names).length : Int)) = false, decide ((↑(List.map AV.str h.names).length : Int) < (↑(encVs l).length : Int)) = true]) := by kernel_rfl
theorem b72_3 (W : World) (h : JH) (l : List JV) (s : List UInt8) (i : Int) (x : List UInt8) : sbodyM Tryz.prog W { lp := true } 33 0 [] (S72 h l s i) [aE 1, bf, bt, .lg, oS (.str x), bt, ee] = .ok ((.ret, { t := [(1, .str s), (2, .gp 100000 0), (4, iA i), (5, iA i), (11, iA i), (12, eV h l), (13, iA (↑(encVs l).length : Int)), (14, bA (decide (i < (↑(encVs l).length : Int)))), (17, .gp 100000 3), (18, sL 1 (List.map AV.str h.names)), (19, iA i), (20, (AV.str x).ip 0), (21, .str x), (22, .str s), (23, bA (decide (x = s))), (24, iA i)], h := [(100000, gB (eV h l))] }), [ee], [decide (x = s) = true, (List.map AV.str h.names)[i.toNat]? = some (AV.str x), 0 ≤ i, decide (i < (↑(encVs l).length : Int)) = true, decide ((↑(List.map AV.str h.names).length : Int) < (↑(encVs l).length : Int)) = false]) := by kernel_rfl
theorem b72_4 (W : World) (h : JH) (l : List JV) (s : List UInt8) (i : Int) (x : List UInt8) : sQ W { lp := true } 33 0 [] [1, 2, 5] (S72 h l s i) [aE 1, bf, bt, .lg, oS (.str x), bf, ee] = .ok ((.normal, { t := [(1, .str s), (2, .gp 100000 0), (5, iA (IntKind.i64.wrap (i + 1)))], h := [(100000, gB (eV h l))] }), [ee], [decide (x = s) = false, (List.map AV.str h.names)[i.toNat]? = some (AV.str x), 0 ≤ i, decide (i < (↑(encVs l).length : Int)) = true, decide ((↑(List.map AV.str h.names).length : Int) < (↑(encVs l).length : Int)) = false]) := by kernel_rfl
theorem b72_5 (W : World) (h : JH) (l : List JV) (s : List UInt8) (i : Int) : sbodyM Tryz.prog W { lp := true } 33 0 [] (S72 h l s i) [aE 1, bf, bf, ee] = .ok ((.exit 0, { t := [(1, .str s), (2, .gp 100000 0), (5, iA i), (11, iA i), (12, eV h l), (13, iA (↑(encVs l).length : Int)), (14, bA (decide (i < (↑(encVs l).length : Int))))], h := [(100000, gB (eV h l))] }), [ee], [decide (i < (↑(encVs l).length : Int)) = false, decide ((↑(List.map AV.str h.names).length : Int) < (↑(encVs l).length : Int)) = false]) := by kernel_rfl
theorem p72_3 (W : World) (h : JH) (l : List JV) (s : List UInt8) (i : Int) : sF W { lp := true, tl := [23] } 33 [eV h l, .str s] [] 100000 [bt, ee, .loopM [] [] (S72 h l s 0) (.exit 0) (S72 h l s i), ee, cR (idxA s) [], bf, bf, ee] [] = .ok (.ret (iA (-1)) [], [aE 9999993], d2 (decide (h.kind = 5) = false) [MZ W 23 [.str s] [] (.ret (.tup [iA (↑(idx s) : Int), bA (idxOk s)]) []), LZ W [] 33 0 (S72 h l s 0) (.exit 0) (S72 h l s i), MatchK [] [] [] { t := [(1, .str s), (2, .gp 100000 0), (5, iA 0)], h := [(100000, gB (eV h l))] } (S72 h l s 0), decide (h.kind = 6) = true]) := by kernel_rfl
theorem q72_0 (W : World) (h : JH) (l : List JV) (s : List UInt8) (i : Int) : sF W { lp := true, tl := [23] } 33 [eV h l, .str s] [] 100000 [bt, ee, .loopM [] [] (S72 h l s 0) .ret (R164 i), ee] [] = .ok (.ret (iA i) [], [ee], [LZ W [] 33 0 (S72 h l s 0) .ret (R164 i), MatchK [] [] [] { t := [(1, .str s), (2, .gp 100000 0), (5, iA 0)], h := [(100000, gB (eV h l))] } (S72 h l s 0), decide (h.kind = 6) = true]) := by kernel_rfl
theorem q72_1 (W : World) (h : JH) (l : List JV) (s : List UInt8) : sF W { lp := true, tl := [23] } 33 [eV h l, .str s] [] 100000 [bf, ee, cR (idxA s) [], bt, bt, bt, bt, bt, bt, bt, bt, bt, ee] [] = .ok (.ret (iA (↑(idx s) : Int)) [], [ee], (decide ((↑(idx s) : Int) < (↑(encVs l).length : Int)) = true) :: (d6 (idxOk s = true) (d2 (decide (h.kind = 5) = true) [MZ W 23 [.str s] [] (.ret (.tup [iA (↑(idx s) : Int), bA (idxOk s)]) []), decide (h.kind = 6) = false]))) := by kernel_rfl
theorem q72_2 (W : World) (h : JH) (l : List JV) (s : List UInt8) : sF W { lp := true, tl := [23] } 33 [eV h l, .str s] [] 100000 [bf, ee, cR (idxA s) [], bt, bt, bt, bt, bt, bt, bt, bt, bf, ee] [] = .ok (.ret (iA (-1)) [], [ee], (decide ((↑(idx s) : Int) < (↑(encVs l).length : Int)) = false) :: (d6 (idxOk s = true) (d2 (decide (h.kind = 5) = true) [MZ W 23 [.str s] [] (.ret (.tup [iA (↑(idx s) : Int), bA (idxOk s)]) []), decide (h.kind = 6) = false]))) := by kernel_rfl
theorem q72_3 (W : World) (h : JH) (l : List JV) (s : List UInt8) : sF W { lp := true, tl := [23] } 33 [eV h l, .str s] [] 100000 [bf, ee, cR (idxA s) [], bt, bt, bf, bf, bf, bf, bf, bf, ee] [] = .ok (.ret (iA (-1)) [], [aE 9999999], d6 (idxOk s = false) (d2 (decide (h.kind = 5) = true) [MZ W 23 [.str s] [] (.ret (.tup [iA (↑(idx s) : Int), bA (idxOk s)]) []), decide (h.kind = 6) = false])) := by kernel_rfl
theorem q72_4 (W : World) (h : JH) (l : List JV) (s : List UInt8) : sF W { lp := true, tl := [23] } 33 [eV h l, .str s] [] 100000 [bf, ee, cR (idxA s) [], bf, bf, ee] [] = .ok (.ret (iA (-1)) [], [aE 9999993], d2 (decide (h.kind = 5) = false) [MZ W 23 [.str s] [] (.ret (.tup [iA (↑(idx s) : Int), bA (idxOk s)]) []), decide (h.kind = 6) = false]) := by kernel_rfl
theorem p116_0 (W : World) (s : List UInt8) : sF W { lp := true } 44 [.str s] [] 100000 [bt, bt, bt, bt, bt, bt, aE 7, bt, bt, bt, ee] [] = .ok (.ret (bA false) [], [aE 9999996], d2 (decide ((↑s.length : Int) ≤ 64) = true) ((decide ([46] = s) = true) :: (d2 (decide ((↑s.length : Int) ≤ 64) = true) (d4 (decide (1 ≤ (↑s.length : Int)) = true) [])))) := by kernel_rfl
theorem p116_1 (W : World) (s : List UInt8) (x : UInt8) : sF W { lp := true } 44 [.str s] [] 100000 [bt, bt, bt, bt, bt, bt, aE 7, bf, aE 4, bt, bt, bt, bt, aE 1, Ans.byt (some x), bt, bt, ee] [] = .ok (.ret (bA (!decide ((↑x.toNat : Int) = 36))) [], [ee], d2 ((!decide (0 ≤ ixbB s (UInt8.ofNat 46))) = true) ((s[0]? = some x) :: (d2 ((!decide (0 ≤ ixbB s (UInt8.ofNat 46))) = true) (d2 (decide ((↑s.length : Int) ≤ 64) = true) ((decide ([46] = s) = false) :: (d2 (decide ((↑s.length : Int) ≤ 64) = true) (d4 (decide (1 ≤ (↑s.length : Int)) = true) []))))))) := by kernel_rfl
theorem p116_2 (W : World) (s : List UInt8) : sF W { lp := true } 44 [.str s] [] 100000 [bt, bt, bt, bt, bt, bt, aE 7, bf, aE 4, bt, bt, bf, bf, bf, bf, ee] [] = .ok (.ret (bA false) [], [ee], d4 ((!decide (0 ≤ ixbB s (UInt8.ofNat 46))) = false) (d2 (decide ((↑s.length : Int) ≤ 64) = true) ((decide ([46] = s) = false) :: (d2 (decide ((↑s.length : Int) ≤ 64) = true) (d4 (decide (1 ≤ (↑s.length : Int)) = true) []))))) := by kernel_rfl
theorem p116_3 (W : World) (s : List UInt8) : sF W { lp := true } 44 [.str s] [] 100000 [bt, bt, bt, bt, bf, bf, bf, bf, ee] [] = .ok (.ret (bA false) [], [aE 9999996], d4 (decide ((↑s.length : Int) ≤ 64) = false) (d4 (decide (1 ≤ (↑s.length : Int)) = true) [])) := by kernel_rfl
theorem p116_4 (W : World) (s : List UInt8) : sF W { lp := true } 44 [.str s] [] 100000 [bf, bf, bf, bf, ee] [] = .ok (.ret (bA false) [], [aE 9999992], d4 (decide (1 ≤ (↑s.length : Int)) = false) []) := by kernel_rfl
theorem call116 : callable Tryz.prog 44 = true := by kernel_rfl
theorem call68 : callable Tryz.prog 32 = true := by kernel_rfl
theorem call72 : callable Tryz.prog 33 = true := by kernel_rfl
theorem goB {W : World} {f : FuncId} {As : List AV} {r r' : AV} (e : r = r') (hc : r.clo = true) (h : MutC Tryz.prog W f As [] (.ret r [])) : Pure Tryz.prog W f As r' := by subst e; exact pure_of_mut hc h
theorem segment116 (W : World) (s : List UInt8) : Pure Tryz.prog W 44 [.str s] (bA (segB s)) := by
  cases s with
  | nil => exact goB rfl rfl (mut_of_sfun mixedz call116 rfl (p116_4 W []) Fb2_z4)
  | cons c t =>
    by_cases h1 : ((c :: t).length : Int) ≤ 64
    case neg => exact goB (by rw [segB_cons, decide_eq_false (by simp only [List.length_cons] at h1; omega)] <;> rfl) rfl (mut_of_sfun mixedz call116 rfl (p116_3 W (c :: t)) Fb2_z4)
    by_cases h2 : [46] = c :: t
    · rw [← h2]; exact goB rfl rfl (mut_of_sfun mixedz call116 rfl (p116_0 W [46]) Fb2_z4)
    have h1' : t.length + 1 ≤ 64 := by simp only [List.length_cons] at h1; omega
    by_cases h3 : 0 ≤ ixbB (c :: t) (UInt8.ofNat 46)
    · have h3' : ¬ Lib.indexByte (c :: t) 46 < 0 := by rw [ixbB_eq Tryz.prog] at h3; exact Int.not_lt.2 h3
      exact goB (by rw [segB_cons, decide_eq_true h1', decide_eq_false h3'] <;> rfl) rfl (mut_of_sfun mixedz call116 rfl (p116_2 W (c :: t)) (by simp only [Holds, and_true]; and_intros <;> first | exact decide_eq_true (by simp only [List.length_cons]; omega) | exact decide_eq_true h1 | exact decide_eq_false h2 | (rw [decide_eq_true h3]; rfl)))
    · have h3' : Lib.indexByte (c :: t) 46 < 0 := by rw [ixbB_eq Tryz.prog] at h3; exact Int.not_le.1 h3
      exact goB (by rw [segB_cons, decide_eq_true h1', decide_eq_true h3'] <;> rfl) rfl (mut_of_sfun mixedz call116 rfl (p116_1 W (c :: t) c) (by simp only [Holds, and_true]; and_intros <;> first | exact decide_eq_true (by simp only [List.length_cons]; omega) | exact decide_eq_true h1 | exact decide_eq_false h2 | (rw [decide_eq_false h3]; rfl) | rfl))
section
variable (W : World) (s : List UInt8)
theorem loop68 (hl : s.length ≤ 2 ^ 50) (hd : 46 ∉ s) : ∀ i : Nat, i ≤ s.length → LoopC Tryz.prog W [] (nslots Tryz.prog 32) (loopOf Tryz.prog 32 0) (S68 s i) (.exit 0) (S68 s s.length) := by
  refine loopC_inv (fun i : Nat => S68 s i) (fun i => i ≤ s.length) (fun i => s.length - i) (by simp) ?_
  intro i h1
  by_cases hi : i < s.length
  · obtain ⟨x, hx⟩ := getOf hi
    left
    have hne : ¬ (x.toNat : Int) = 46 := fun e => hd ((u8_eq x 46 46 rfl).1 e ▸ List.mem_of_getElem? hx)
    exact ⟨i + 1, by omega, by omega, body_of_sbodyK mixedz (b68_1 W s i x) Fb2_z4 [] [] Fb2_z1⟩
  · right
    have hil : i = s.length := by omega
    subst hil
    exact body_of_sbodyK mixedz (b68_2 W s s.length) Fb2_z4 [] [] Fb2_z1
theorem loopR68 (hl : s.length ≤ 2 ^ 50) (hd : 46 ∈ s) : ∀ i : Nat, (i ≤ s.length ∧ ∀ k, k < i → s[k]? ≠ some 46) → LoopC Tryz.prog W [] (nslots Tryz.prog 32) (loopOf Tryz.prog 32 0) (S68 s i) .ret (R68 false) := by
  refine loopC_inv (fun i : Nat => S68 s i) (fun i => i ≤ s.length ∧ ∀ k, k < i → s[k]? ≠ some 46) (fun i => s.length - i) (by simp) ?_
  rintro i ⟨h1, h2⟩
  by_cases hi : i < s.length
  · obtain ⟨x, hx⟩ := getOf hi
    by_cases he : (x.toNat : Int) = 46
    · exact .inr (body_of_sbodyK mixedz (b68_0 W s i x) Fb2_z4 [] [] Fb2_z1)
    left
    exact ⟨i + 1, ⟨by omega, _root_.Go.Ac.upto_succ h2 (by rw [hx]; intro e; simp only [Option.some.injEq] at e; exact he ((u8_eq x 46 46 rfl).2 e))⟩, by omega, body_of_sbodyK mixedz (b68_1 W s i x) Fb2_z4 [] [] Fb2_z1⟩
  · exfalso
    obtain ⟨k, hk⟩ := List.getElem?_of_mem hd
    exact h2 k (by have := (List.getElem?_eq_some_iff.1 hk).1; omega) hk
theorem segment68 (hl : s.length ≤ 2 ^ 50) : Pure Tryz.prog W 32 [.str s] (bA (segB s)) := by
  by_cases hd : 46 ∈ s
  · have hlp := loopR68 W s hl hd 0 ⟨by omega, by intro k hk; omega⟩
    exact goB (by simp [segB, hd, bA]) rfl (mut_of_sfun mixedz call68 rfl (q68_0 W s) Fb2_z5)
  have hlp := loop68 W s hl hd 0 (by omega)
  cases s with
  | nil => exact goB rfl rfl (mut_of_sfun mixedz call68 rfl (p68_2 W []) Fb2_z5)
  | cons c t =>
    have hneg : Lib.indexByte (c :: t) 46 < 0 := (indexByte_neg 46 (c :: t)).2 hd
    by_cases h1 : ((c :: t).length : Int) ≤ 64
    case neg => exact goB (by rw [segB_cons, decide_eq_false (by simp only [List.length_cons] at h1; omega)] <;> rfl) rfl (mut_of_sfun mixedz call68 rfl (p68_1 W (c :: t)) Fb2_z5)
    have h1' : t.length + 1 ≤ 64 := by simp only [List.length_cons] at h1; omega
    exact goB (by rw [segB_cons, decide_eq_true h1', decide_eq_true hneg] <;> rfl) rfl (mut_of_sfun mixedz call68 rfl (p68_0 W (c :: t) c) Fb2_z5)
end
section
variable (W : World) (h : JH) (l : List JV) (s : List UInt8)
theorem placeL_cases (n : Nat) (hn : n ≤ h.names.length) : (∀ k, k < n → h.names[k]? ≠ some s) ∨ ∃ j, j < n ∧ h.names[j]? = some s ∧ ∀ k, k < j → h.names[k]? ≠ some s := by
  induction n with
  | zero => exact .inl fun k hk => by omega
  | succ n ih =>
    rcases ih (by omega) with h1 | ⟨j, h1, h2, h3⟩
    · by_cases e : h.names[n]? = some s
      · exact .inr ⟨n, by omega, e, h1⟩
      · exact .inl (_root_.Go.Ac.upto_succ h1 e)
    · exact .inr ⟨j, by omega, h2, h3⟩
theorem mem_mk : (JV.mk h l).mem = if l.length < h.names.length then l.length else h.names.length := rfl
theorem mem_fst (h1 : (h.names.length : Int) < (l.length : Int)) : (JV.mk h l).mem = h.names.length := by rw [mem_mk]; split <;> omega
theorem mem_snd (h1 : ¬ (h.names.length : Int) < (l.length : Int)) : (JV.mk h l).mem = l.length := by rw [mem_mk]; split <;> omega
theorem loop72 (hl : h.names.length ≤ 2 ^ 50) (hno : ∀ k, k < (JV.mk h l).mem → h.names[k]? ≠ some s) : ∀ i : Nat, i ≤ (JV.mk h l).mem → LoopC Tryz.prog W [] (nslots Tryz.prog 33) (loopOf Tryz.prog 33 0) (S72 h l s i) (.exit 0) (S72 h l s (JV.mk h l).mem) := by
  have hmm := JV.mem_names (.mk h l)
  simp only [JV.names, JV.hd] at hmm
  refine loopC_inv (fun i : Nat => S72 h l s i) (fun i => i ≤ (JV.mk h l).mem) (fun i => (JV.mk h l).mem - i) (by simp) ?_
  intro i h1
  by_cases hc : (h.names.length : Int) < (l.length : Int)
  · have hme := mem_fst h l hc
    by_cases hi : i < (JV.mk h l).mem
    · obtain ⟨x, hx⟩ := getOf (l := h.names) (i := i) (by omega)
      left
      have hne : ¬ x = s := fun e => hno i hi (by rw [hx, e])
      exact ⟨i + 1, by omega, by omega, body_of_sbodyK mixedz (b72_1 W h l s i x) Fb2_z4 [] [] Fb2_z1⟩
    · right
      have hil : i = (JV.mk h l).mem := by omega
      rw [← hil]
      exact body_of_sbodyM mixedz (b72_2 W h l s i) Fb2_z4 [] [] Fb2_z1
  · have hme := mem_snd h l hc
    by_cases hi : i < (JV.mk h l).mem
    · obtain ⟨x, hx⟩ := getOf (l := h.names) (i := i) (by omega)
      left
      have hne : ¬ x = s := fun e => hno i hi (by rw [hx, e])
      exact ⟨i + 1, by omega, by omega, body_of_sbodyK mixedz (b72_4 W h l s i x) Fb2_z4 [] [] Fb2_z1⟩
    · right
      have hil : i = (JV.mk h l).mem := by omega
      rw [← hil]
      exact body_of_sbodyM mixedz (b72_5 W h l s i) Fb2_z4 [] [] Fb2_z1
theorem loopR72 (hl : h.names.length ≤ 2 ^ 50) {j : Nat} (hj : j < (JV.mk h l).mem) (hs : h.names[j]? = some s) (hno : ∀ k, k < j → h.names[k]? ≠ some s) : ∀ i : Nat, i ≤ j → LoopC Tryz.prog W [] (nslots Tryz.prog 33) (loopOf Tryz.prog 33 0) (S72 h l s i) .ret (R164 j) := by
  have hmm := JV.mem_names (.mk h l)
  simp only [JV.names, JV.hd] at hmm
  refine loopC_inv (fun i : Nat => S72 h l s i) (fun i => i ≤ j) (fun i => j - i) (by simp) ?_
  intro i h1
  obtain ⟨x, hx⟩ := getOf (l := h.names) (i := i) (by omega)
  by_cases hc : (h.names.length : Int) < (l.length : Int)
  · have hme := mem_fst h l hc
    by_cases hi : i < j
    · left
      have hne : ¬ x = s := fun e => hno i hi (by rw [hx, e])
      exact ⟨i + 1, by omega, by omega, body_of_sbodyK mixedz (b72_1 W h l s i x) Fb2_z4 [] [] Fb2_z1⟩
    · right
      have hil : i = j := by omega
      subst hil
      have he : x = s := by rw [hs] at hx; exact (Option.some.inj hx).symm
      exact body_of_sbodyM mixedz (b72_0 W h l s i x) Fb2_z4 [] [] Fb2_z1
  · have hme := mem_snd h l hc
    by_cases hi : i < j
    · left
      have hne : ¬ x = s := fun e => hno i hi (by rw [hx, e])
      exact ⟨i + 1, by omega, by omega, body_of_sbodyK mixedz (b72_4 W h l s i x) Fb2_z4 [] [] Fb2_z1⟩
    · right
      have hil : i = j := by omega
      subst hil
      have he : x = s := by rw [hs] at hx; exact (Option.some.inj hx).symm
      exact body_of_sbodyM mixedz (b72_3 W h l s i x) Fb2_z4 [] [] Fb2_z1
theorem place72 (hl : h.names.length ≤ 2 ^ 50) : Pure Tryz.prog W 33 [encV (.mk h l), .str s] (iA ((JV.mk h l).child s)) := by
  have hmm := JV.mem_names (.mk h l)
  simp only [JV.names, JV.hd] at hmm
  have hc := mut_of_pure (by rfl) (index71 W s)
  by_cases hk : h.kind = 6
  · have e1 : (JV.mk h l).child s = (JV.mk h l).place s := child_obj hk
    rw [e1]
    rcases placeL_cases h s (JV.mk h l).mem hmm with h1 | ⟨j, h1, h2, h3⟩
    · have hlp := loop72 W h l s hl h1 0 (by omega)
      exact goB (by rw [show (JV.mk h l).place s = -1 from placeL_none s (JV.mk h l).names _ 0 h1] <;> rfl) rfl (mut_of_sfun mixedz call72 rfl (p72_3 W h l s (JV.mk h l).mem) Fb2_z5)
    · have hlp := loopR72 W h l s hl h1 h2 h3 0 (by omega)
      exact goB (by rw [show (JV.mk h l).place s = ((0 + j : Nat) : Int) from placeL_some s (JV.mk h l).names _ 0 j h1 h2 h3, Nat.zero_add] <;> rfl) rfl (mut_of_sfun mixedz call72 rfl (q72_0 W h l s j) Fb2_z5)
  by_cases hk5 : h.kind = 5
  case neg => exact goB (by rw [child_none (j := .mk h l) hk (by rintro ⟨q, _⟩; exact hk5 q)] <;> rfl) rfl (mut_of_sfun mixedz call72 rfl (q72_4 W h l s) Fb2_z4)
  cases hx : idxOk s with
  | false => exact goB (by rw [child_none (j := .mk h l) hk (by rintro ⟨_, q, _⟩; rw [hx] at q; cases q)] <;> rfl) rfl (mut_of_sfun mixedz call72 rfl (q72_3 W h l s) Fb2_z4)
  | true =>
    by_cases hi : (idx s : Int) < (l.length : Int)
    · exact goB (by rw [child_ix (j := .mk h l) hk5 hx hi] <;> rfl) rfl (mut_of_sfun mixedz call72 rfl (q72_1 W h l s) Fb2_z4)
    · exact goB (by rw [child_none (j := .mk h l) hk (by rintro ⟨_, _, q⟩; exact hi q)] <;> rfl) rfl (mut_of_sfun mixedz call72 rfl (q72_2 W h l s) Fb2_z4)
end
end Go.Ac

