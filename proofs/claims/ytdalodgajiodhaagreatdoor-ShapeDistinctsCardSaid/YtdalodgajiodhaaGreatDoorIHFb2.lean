/- What is proved: contracts of functions of this translation, walked; their plain meaning. No condition beyond those that each theorem names. -/
import Derived.Test.YtdalodgajiodhaaGreatDoorIHFb1
set_option linter.all false
namespace Go.Ac
open Go Go.Proofs
set_option maxRecDepth 10000
set_option maxHeartbeats 1000000
theorem Fb2_z1 {kp f ph σ σ'} (h : MatchK kp f ph σ σ' := by exact ⟨by rfl, (by simp only [S68, R68, S164, R164, S72, tOK, List.map_cons, List.map_nil, and_true] <;> exact zt), (by simp only [S68, R68, S164, R164, S72, hOK, List.map_cons, List.map_nil, and_true] <;> exact zh), (by simp only [S68, R68, S164, R164, S72, liveT, List.map_cons, List.map_nil, and_true] <;> exact zv), (by simp only [S68, R68, S164, R164, S72, liveH, List.map_cons, List.map_nil, and_true] <;> exact zv)⟩) : MatchK kp f ph σ σ' := h
theorem Fb2_z4 {cs} (h : Holds cs := by simp only [Holds, and_true] <;> and_intros <;> first | exact zd | (simp only [Bool.not_eq_true', decide_eq_false_iff_not, Bool.not_eq_false', decide_eq_true_eq, ixbB_eq Tryz.prog, List.length_map, encVs_len, List.length_cons]; first | assumption | omega; done)) : Holds cs := h
theorem Fb2_z5 {cs} (h : Holds cs := by simp only [Holds, and_true] <;> and_intros <;> first | exact zd | (simp only [Bool.not_eq_true', decide_eq_false_iff_not, Bool.not_eq_false', decide_eq_true_eq, ixbB_eq Tryz.prog, List.length_map, encVs_len, List.length_cons]; first | assumption | omega; done) | exact Fb2_z1) : Holds cs := h
def S68 (s : List UInt8) (i : Int) : AS := ⟨[(0, .str s), (3, iA i)], []⟩
def R68 (b : Bool) : AS := ⟨[(2, .val (.bool b))], []⟩
def S164 (h : JH) (l : List JV) (s : List UInt8) (m i : Int) : AS := ⟨[(1, .str s), (2, .gp 100000 0), (7, iA m), (8, iA i)], [(100000, .box (encV (.mk h l)) .own)]⟩
def R164 (i : Int) : AS := ⟨[(4, iA i)], []⟩
def S72 (h : JH) (l : List JV) (s : List UInt8) (i : Int) : AS := ⟨[(1, .str s), (2, .gp 100000 0), (5, iA i)], [(100000, .box (encV (.mk h l)) .own)]⟩
theorem b164_0 (W : World) (h : JH) (l : List JV) (s : List UInt8) (m i : Int) (x : List UInt8) : sQ W { lp := true } 97 0 [] [1, 2, 4, 7, 8] (S164 h l s m i) [bt, .lg, oS (.str x), bt, ee] = .ok ((.ret, { t := [(1, .str s), (2, .gp 100000 0), (4, iA i), (7, iA m), (8, iA i)], h := [(100000, gB (eV h l))] }), [ee], [decide (x = s) = true, (List.map AV.str h.names)[i.toNat]? = some (AV.str x), 0 ≤ i, decide (i < m) = true]) := by kernel_rfl
theorem b164_1 (W : World) (h : JH) (l : List JV) (s : List UInt8) (m i : Int) (x : List UInt8) : sQ W { lp := true } 97 0 [] [1, 2, 4, 7, 8] (S164 h l s m i) [bt, .lg, oS (.str x), bf, ee] = .ok ((.normal, { t := [(1, .str s), (2, .gp 100000 0), (7, iA m), (8, iA (IntKind.i64.wrap (i + 1)))], h := [(100000, gB (eV h l))] }), [ee], [decide (x = s) = false, (List.map AV.str h.names)[i.toNat]? = some (AV.str x), 0 ≤ i, decide (i < m) = true]) := by kernel_rfl
theorem b164_2 (W : World) (h : JH) (l : List JV) (s : List UInt8) (m i : Int) : sQ W { lp := true } 97 0 [] [1, 2, 4, 7, 8] (S164 h l s m i) [bf, ee] = .ok ((.exit 0, { t := [(1, .str s), (2, .gp 100000 0), (7, iA m), (8, iA i)], h := [(100000, gB (eV h l))] }), [ee], [decide (i < m) = false]) := by kernel_rfl
theorem p164_0 (W : World) (h : JH) (l : List JV) (s : List UInt8) (m : Int) : sF W { lp := true } 97 [eV h l, .str s] [] 100000 [ee, .loopM [] [] (S164 h l s m 0) (.exit 0) (S164 h l s m m), ee] [] = .ok (.ret (iA (-1)) [], [ee], [LZ W [] 97 0 (S164 h l s m 0) (.exit 0) (S164 h l s m m), MatchK [] [] [] { t := [(1, .str s), (2, .gp 100000 0), (7, iA (if (↑(encVs l).length : Int) < (↑(List.map AV.str h.names).length : Int) then (↑(encVs l).length : Int) else (↑(List.map AV.str h.names).length : Int))), (8, iA 0)], h := [(100000, gB (eV h l))] } (S164 h l s m 0)]) := by kernel_rfl
theorem q164_0 (W : World) (h : JH) (l : List JV) (s : List UInt8) (m i : Int) : sF W { lp := true } 97 [eV h l, .str s] [] 100000 [ee, .loopM [] [] (S164 h l s m 0) .ret (R164 i), ee] [] = .ok (.ret (iA i) [], [ee], [LZ W [] 97 0 (S164 h l s m 0) .ret (R164 i), MatchK [] [] [] { t := [(1, .str s), (2, .gp 100000 0), (7, iA (if (↑(encVs l).length : Int) < (↑(List.map AV.str h.names).length : Int) then (↑(encVs l).length : Int) else (↑(List.map AV.str h.names).length : Int))), (8, iA 0)], h := [(100000, gB (eV h l))] } (S164 h l s m 0)]) := by kernel_rfl
theorem b72_0 (W : World) (h : JH) (l : List JV) (s : List UInt8) (i : Int) (x : List UInt8) : sbodyM Tryz.prog W { lp := true } 102 0 [] (S72 h l s i) [aE 1, bt, bt, .lg, oS (.str x), bt, ee] = .ok ((.ret, { t := [(1, .str s), (2, .gp 100000 0), (4, iA i), (5, iA i), (11, iA i), (12, eV h l), (13, iA (↑(List.map AV.str h.names).length : Int)), (14, bA (decide (i < (↑(List.map AV.str h.names).length : Int)))), (17, .gp 100000 3), (18, sL 1 (List.map AV.str h.names)), (19, iA i), (20, (AV.str x).ip 0), (21, .str x), (22, .str s), (23, bA (decide (x = s))), (24, iA i)], h := [(100000, gB (eV h l))] }), [ee], [decide (x = s) = true, (List.map AV.str h.names)[i.toNat]? = some (AV.str x), 0 ≤ i, decide (i < (↑(List.map AV.str h.names).length : Int)) = true, decide ((↑(List.map AV.str h.names).length : Int) < (↑(encVs l).length : Int)) = true]) := by kernel_rfl
theorem b72_1 (W : World) (h : JH) (l : List JV) (s : List UInt8) (i : Int) (x : List UInt8) : sQ W { lp := true } 102 0 [] [1, 2, 5] (S72 h l s i) [aE 1, bt, bt, .lg, oS (.str x), bf, ee] = .ok ((.normal, { t := [(1, .str s), (2, .gp 100000 0), (5, iA (IntKind.i64.wrap (i + 1)))], h := [(100000, gB (eV h l))] }), [ee], [decide (x = s) = false, (List.map AV.str h.names)[i.toNat]? = some (AV.str x), 0 ≤ i, decide (i < (↑(List.map AV.str h.names).length : Int)) = true, decide ((↑(List.map AV.str h.names).length : Int) < (↑(encVs l).length : Int)) = true]) := by kernel_rfl
theorem b72_2 (W : World) (h : JH) (l : List JV) (s : List UInt8) (i : Int) : sbodyM Tryz.prog W { lp := true } 102 0 [] (S72 h l s i) [aE 1, bt, bf, ee] = .ok ((.exit 0, { t := [(1, .str s), (2, .gp 100000 0), (5, iA i), (11, iA i), (12, eV h l), (13, iA (↑(List.map AV.str h.names).length : Int)), (14, bA (decide (i < (↑(List.map AV.str h.names).length : Int))))], h := [(100000, gB (eV h l))] }), [ee], [decide (i < (↑(List.map AV.str h.names).length : Int)) = false, decide ((↑(List.map AV.str h.names).length : Int) < (↑(encVs l).length : Int)) = true]) := by kernel_rfl
theorem b72_3 (W : World) (h : JH) (l : List JV) (s : List UInt8) (i : Int) (x : List UInt8) : sbodyM Tryz.prog W { lp := true } 102 0 [] (S72 h l s i) [aE 1, bf, bt, .lg, oS (.str x), bt, ee] = .ok ((.ret, { t := [(1, .str s), (2, .gp 100000 0), (4, iA i), (5, iA i), (11, iA i), (12, eV h l), (13, iA (↑(encVs l).length : Int)), (14, bA (decide (i < (↑(encVs l).length : Int)))), (17, .gp 100000 3), (18, sL 1 (List.map AV.str h.names)), (19, iA i), (20, (AV.str x).ip 0), (21, .str x), (22, .str s), (23, bA (decide (x = s))), (24, iA i)], h := [(100000, gB (eV h l))] }), [ee], [decide (x = s) = true, (List.map AV.str h.names)[i.toNat]? = some (AV.str x), 0 ≤ i, decide (i < (↑(encVs l).length : Int)) = true, decide ((↑(List.map AV.str h.names).length : Int) < (↑(encVs l).length : Int)) = false]) := by kernel_rfl
theorem b72_4 (W : World) (h : JH) (l : List JV) (s : List UInt8) (i : Int) (x : List UInt8) : sQ W { lp := true } 102 0 [] [1, 2, 5] (S72 h l s i) [aE 1, bf, bt, .lg, oS (.str x), bf, ee] = .ok ((.normal, { t := [(1, .str s), (2, .gp 100000 0), (5, iA (IntKind.i64.wrap (i + 1)))], h := [(100000, gB (eV h l))] }), [ee], [decide (x = s) = false, (List.map AV.str h.names)[i.toNat]? = some (AV.str x), 0 ≤ i, decide (i < (↑(encVs l).length : Int)) = true, decide ((↑(List.map AV.str h.names).length : Int) < (↑(encVs l).length : Int)) = false]) := by kernel_rfl
theorem b72_5 (W : World) (h : JH) (l : List JV) (s : List UInt8) (i : Int) : sbodyM Tryz.prog W { lp := true } 102 0 [] (S72 h l s i) [aE 1, bf, bf, ee] = .ok ((.exit 0, { t := [(1, .str s), (2, .gp 100000 0), (5, iA i), (11, iA i), (12, eV h l), (13, iA (↑(encVs l).length : Int)), (14, bA (decide (i < (↑(encVs l).length : Int))))], h := [(100000, gB (eV h l))] }), [ee], [decide (i < (↑(encVs l).length : Int)) = false, decide ((↑(List.map AV.str h.names).length : Int) < (↑(encVs l).length : Int)) = false]) := by kernel_rfl
theorem p72_3 (W : World) (h : JH) (l : List JV) (s : List UInt8) (i : Int) : sF W { lp := true, tl := [101] } 102 [eV h l, .str s] [] 100000 [bt, ee, .loopM [] [] (S72 h l s 0) (.exit 0) (S72 h l s i), ee, cR (idxA s) [], bf, bf, ee] [] = .ok (.ret (iA (-1)) [], [aE 9999993], d2 (decide (h.kind = 5) = false) [MZ W 101 [.str s] [] (.ret (.tup [iA (↑(idx s) : Int), bA (idxOk s)]) []), LZ W [] 102 0 (S72 h l s 0) (.exit 0) (S72 h l s i), MatchK [] [] [] { t := [(1, .str s), (2, .gp 100000 0), (5, iA 0)], h := [(100000, gB (eV h l))] } (S72 h l s 0), decide (h.kind = 6) = true]) := by kernel_rfl
theorem q72_0 (W : World) (h : JH) (l : List JV) (s : List UInt8) (i : Int) : sF W { lp := true, tl := [101] } 102 [eV h l, .str s] [] 100000 [bt, ee, .loopM [] [] (S72 h l s 0) .ret (R164 i), ee] [] = .ok (.ret (iA i) [], [ee], [LZ W [] 102 0 (S72 h l s 0) .ret (R164 i), MatchK [] [] [] { t := [(1, .str s), (2, .gp 100000 0), (5, iA 0)], h := [(100000, gB (eV h l))] } (S72 h l s 0), decide (h.kind = 6) = true]) := by kernel_rfl
theorem q72_1 (W : World) (h : JH) (l : List JV) (s : List UInt8) : sF W { lp := true, tl := [101] } 102 [eV h l, .str s] [] 100000 [bf, ee, cR (idxA s) [], bt, bt, bt, bt, bt, bt, bt, bt, bt, ee] [] = .ok (.ret (iA (↑(idx s) : Int)) [], [ee], (decide ((↑(idx s) : Int) < (↑(encVs l).length : Int)) = true) :: (d6 (idxOk s = true) (d2 (decide (h.kind = 5) = true) [MZ W 101 [.str s] [] (.ret (.tup [iA (↑(idx s) : Int), bA (idxOk s)]) []), decide (h.kind = 6) = false]))) := by kernel_rfl
theorem q72_2 (W : World) (h : JH) (l : List JV) (s : List UInt8) : sF W { lp := true, tl := [101] } 102 [eV h l, .str s] [] 100000 [bf, ee, cR (idxA s) [], bt, bt, bt, bt, bt, bt, bt, bt, bf, ee] [] = .ok (.ret (iA (-1)) [], [ee], (decide ((↑(idx s) : Int) < (↑(encVs l).length : Int)) = false) :: (d6 (idxOk s = true) (d2 (decide (h.kind = 5) = true) [MZ W 101 [.str s] [] (.ret (.tup [iA (↑(idx s) : Int), bA (idxOk s)]) []), decide (h.kind = 6) = false]))) := by kernel_rfl
theorem q72_3 (W : World) (h : JH) (l : List JV) (s : List UInt8) : sF W { lp := true, tl := [101] } 102 [eV h l, .str s] [] 100000 [bf, ee, cR (idxA s) [], bt, bt, bf, bf, bf, bf, bf, bf, ee] [] = .ok (.ret (iA (-1)) [], [aE 9999999], d6 (idxOk s = false) (d2 (decide (h.kind = 5) = true) [MZ W 101 [.str s] [] (.ret (.tup [iA (↑(idx s) : Int), bA (idxOk s)]) []), decide (h.kind = 6) = false])) := by kernel_rfl
theorem q72_4 (W : World) (h : JH) (l : List JV) (s : List UInt8) : sF W { lp := true, tl := [101] } 102 [eV h l, .str s] [] 100000 [bf, ee, cR (idxA s) [], bf, bf, ee] [] = .ok (.ret (iA (-1)) [], [aE 9999993], d2 (decide (h.kind = 5) = false) [MZ W 101 [.str s] [] (.ret (.tup [iA (↑(idx s) : Int), bA (idxOk s)]) []), decide (h.kind = 6) = false]) := by kernel_rfl
theorem p137_0 (W : World) (h : JH) (l : List JV) (s : List UInt8) (k : Int) : sF W { lp := true, tl := [56, 97] } 76 [eV h l, .str s] [] 100000 [bt, ee, cR (iA k) [], ee] [] = .ok (.ret (iA k) [], [ee], [MZ W 97 [eV h l, .str s] [] (.ret (iA k) []), decide (h.kind = 6) = true]) := by kernel_rfl
theorem p137_1 (W : World) (h : JH) (l : List JV) (s : List UInt8) : sF W { lp := true, tl := [56, 97] } 76 [eV h l, .str s] [] 100000 [bf, bt, ee, cR (idxA s) [], bt, bt, bt, bt, bt, bt, bt, ee] [] = .ok (.ret (iA (↑(idx s) : Int)) [], [ee], (decide ((↑(idx s) : Int) < (↑(encVs l).length : Int)) = true) :: (d6 (idxOk s = true) [MZ W 56 [.str s] [] (.ret (.tup [iA (↑(idx s) : Int), bA (idxOk s)]) []), decide (h.kind = 5) = true, decide (h.kind = 6) = false])) := by kernel_rfl
theorem p137_2 (W : World) (h : JH) (l : List JV) (s : List UInt8) : sF W { lp := true, tl := [56, 97] } 76 [eV h l, .str s] [] 100000 [bf, bt, ee, cR (idxA s) [], bt, bt, bt, bt, bt, bt, bf, ee] [] = .ok (.ret (iA (-1)) [], [ee], (decide ((↑(idx s) : Int) < (↑(encVs l).length : Int)) = false) :: (d6 (idxOk s = true) [MZ W 56 [.str s] [] (.ret (.tup [iA (↑(idx s) : Int), bA (idxOk s)]) []), decide (h.kind = 5) = true, decide (h.kind = 6) = false])) := by kernel_rfl
theorem p137_3 (W : World) (h : JH) (l : List JV) (s : List UInt8) : sF W { lp := true, tl := [56, 97] } 76 [eV h l, .str s] [] 100000 [bf, bt, ee, cR (idxA s) [], bf, bf, bf, bf, bf, bf, ee] [] = .ok (.ret (iA (-1)) [], [aE 9999999], d6 (idxOk s = false) [MZ W 56 [.str s] [] (.ret (.tup [iA (↑(idx s) : Int), bA (idxOk s)]) []), decide (h.kind = 5) = true, decide (h.kind = 6) = false]) := by kernel_rfl
theorem p137_4 (W : World) (h : JH) (l : List JV) (s : List UInt8) : sF W { lp := true, tl := [56, 97] } 76 [eV h l, .str s] [] 100000 [bf, bf, ee] [] = .ok (.ret (iA (-1)) [], [ee], [decide (h.kind = 5) = false, decide (h.kind = 6) = false]) := by kernel_rfl
theorem call164 : callable Tryz.prog 97 = true := by kernel_rfl
theorem call72 : callable Tryz.prog 102 = true := by kernel_rfl
theorem call137 : callable Tryz.prog 76 = true := by kernel_rfl
theorem goB {W : World} {f : FuncId} {As : List AV} {r r' : AV} (e : r = r') (hc : r.clo = true) (h : MutC Tryz.prog W f As [] (.ret r [])) : Pure Tryz.prog W f As r' := by subst e; exact pure_of_mut hc h
section
variable (W : World) (s : List UInt8)
end
section
variable (W : World) (h : JH) (l : List JV) (s : List UInt8)
theorem placeL_cases (n : Nat) (hn : n ≤ h.names.length) : (∀ k, k < n → h.names[k]? ≠ some s) ∨ ∃ j, j < n ∧ h.names[j]? = some s ∧ ∀ k, k < j → h.names[k]? ≠ some s := by
  induction n with
  | zero => exact .inl fun k hk => by omega
  | succ n ih =>
    rcases ih (by omega) with h1 | ⟨j, h1, h2, h3⟩
    · by_cases e : h.names[n]? = some s
      · exact .inr ⟨n, by omega, e, h1⟩
      · exact .inl (_root_.Go.Ac.upto_succ h1 e)
    · exact .inr ⟨j, by omega, h2, h3⟩
theorem mem_mk : (JV.mk h l).mem = if l.length < h.names.length then l.length else h.names.length := rfl
theorem mem_min : (if ((encVs l).length : Int) < ((h.names.map AV.str).length : Int) then ((encVs l).length : Int) else ((h.names.map AV.str).length : Int)) = ((JV.mk h l).mem : Nat) := by
  rw [mem_mk]; simp only [encVs_len, List.length_map]
  by_cases hlt : l.length < h.names.length
  · rw [if_pos (by omega), if_pos hlt]
  · rw [if_neg (by omega), if_neg hlt]
theorem loop164 (hl : h.names.length ≤ 2 ^ 50) {m : Nat} (hm : m ≤ h.names.length) (hno : ∀ k, k < m → h.names[k]? ≠ some s) : ∀ i : Nat, i ≤ m → LoopC Tryz.prog W [] (nslots Tryz.prog 97) (loopOf Tryz.prog 97 0) (S164 h l s m i) (.exit 0) (S164 h l s m m) := by
  refine loopC_inv (fun i : Nat => S164 h l s m i) (fun i => i ≤ m) (fun i => m - i) (by simp) ?_
  intro i h1
  by_cases hi : i < m
  · obtain ⟨x, hx⟩ := getOf (l := h.names) (i := i) (by omega)
    left
    have hne : ¬ x = s := fun e => hno i hi (by rw [hx, e])
    exact ⟨i + 1, by omega, by omega, body_of_sbodyK mixedz (b164_1 W h l s m i x) Fb2_z4 [] [] Fb2_z1⟩
  · right
    have hil : i = m := by omega
    subst hil
    exact body_of_sbodyK mixedz (b164_2 W h l s i i) Fb2_z4 [] [] Fb2_z1
theorem loopR164 (hl : h.names.length ≤ 2 ^ 50) {m j : Nat} (hm : m ≤ h.names.length) (hj : j < m) (hs : h.names[j]? = some s) (hno : ∀ k, k < j → h.names[k]? ≠ some s) : ∀ i : Nat, i ≤ j → LoopC Tryz.prog W [] (nslots Tryz.prog 97) (loopOf Tryz.prog 97 0) (S164 h l s m i) .ret (R164 j) := by
  refine loopC_inv (fun i : Nat => S164 h l s m i) (fun i => i ≤ j) (fun i => m - i) (by simp) ?_
  intro i h1
  obtain ⟨x, hx⟩ := getOf (l := h.names) (i := i) (by omega)
  by_cases hi : i < j
  · left
    have hne : ¬ x = s := fun e => hno i hi (by rw [hx, e])
    exact ⟨i + 1, by omega, by omega, body_of_sbodyK mixedz (b164_1 W h l s m i x) Fb2_z4 [] [] Fb2_z1⟩
  · right
    have hil : i = j := by omega
    subst hil
    have he : x = s := by rw [hs] at hx; exact (Option.some.inj hx).symm
    exact body_of_sbodyK mixedz (b164_0 W h l s m i x) Fb2_z4 [] [] Fb2_z1
theorem place164 (hl : h.names.length ≤ 2 ^ 50) : Pure Tryz.prog W 97 [encV (.mk h l), .str s] (iA ((JV.mk h l).place s)) := by
  have hmm := JV.mem_names (.mk h l)
  simp only [JV.names, JV.hd] at hmm
  have hme := mem_min h l
  rcases placeL_cases h s (JV.mk h l).mem hmm with h1 | ⟨j, h1, h2, h3⟩
  · have hlp := loop164 W h l s hl hmm h1 0 (by omega)
    exact goB (by rw [show (JV.mk h l).place s = -1 from placeL_none s (JV.mk h l).names _ 0 h1] <;> rfl) rfl (mut_of_sfun mixedz call164 rfl (p164_0 W h l s (JV.mk h l).mem) Fb2_z5)
  · have hlp := loopR164 W h l s hl hmm h1 h2 h3 0 (by omega)
    exact goB (by rw [show (JV.mk h l).place s = ((0 + j : Nat) : Int) from placeL_some s (JV.mk h l).names _ 0 j h1 h2 h3, Nat.zero_add] <;> rfl) rfl (mut_of_sfun mixedz call164 rfl (q164_0 W h l s (JV.mk h l).mem j) Fb2_z5)
theorem mem_fst (h1 : (h.names.length : Int) < (l.length : Int)) : (JV.mk h l).mem = h.names.length := by rw [mem_mk]; split <;> omega
theorem mem_snd (h1 : ¬ (h.names.length : Int) < (l.length : Int)) : (JV.mk h l).mem = l.length := by rw [mem_mk]; split <;> omega
theorem loop72 (hl : h.names.length ≤ 2 ^ 50) (hno : ∀ k, k < (JV.mk h l).mem → h.names[k]? ≠ some s) : ∀ i : Nat, i ≤ (JV.mk h l).mem → LoopC Tryz.prog W [] (nslots Tryz.prog 102) (loopOf Tryz.prog 102 0) (S72 h l s i) (.exit 0) (S72 h l s (JV.mk h l).mem) := by
  have hmm := JV.mem_names (.mk h l)
  simp only [JV.names, JV.hd] at hmm
  refine loopC_inv (fun i : Nat => S72 h l s i) (fun i => i ≤ (JV.mk h l).mem) (fun i => (JV.mk h l).mem - i) (by simp) ?_
  intro i h1
  by_cases hc : (h.names.length : Int) < (l.length : Int)
  · have hme := mem_fst h l hc
    by_cases hi : i < (JV.mk h l).mem
    · obtain ⟨x, hx⟩ := getOf (l := h.names) (i := i) (by omega)
      left
      have hne : ¬ x = s := fun e => hno i hi (by rw [hx, e])
      exact ⟨i + 1, by omega, by omega, body_of_sbodyK mixedz (b72_1 W h l s i x) Fb2_z4 [] [] Fb2_z1⟩
    · right
      have hil : i = (JV.mk h l).mem := by omega
      rw [← hil]
      exact body_of_sbodyM mixedz (b72_2 W h l s i) Fb2_z4 [] [] Fb2_z1
  · have hme := mem_snd h l hc
    by_cases hi : i < (JV.mk h l).mem
    · obtain ⟨x, hx⟩ := getOf (l := h.names) (i := i) (by omega)
      left
      have hne : ¬ x = s := fun e => hno i hi (by rw [hx, e])
      exact ⟨i + 1, by omega, by omega, body_of_sbodyK mixedz (b72_4 W h l s i x) Fb2_z4 [] [] Fb2_z1⟩
    · right
      have hil : i = (JV.mk h l).mem := by omega
      rw [← hil]
      exact body_of_sbodyM mixedz (b72_5 W h l s i) Fb2_z4 [] [] Fb2_z1
theorem loopR72 (hl : h.names.length ≤ 2 ^ 50) {j : Nat} (hj : j < (JV.mk h l).mem) (hs : h.names[j]? = some s) (hno : ∀ k, k < j → h.names[k]? ≠ some s) : ∀ i : Nat, i ≤ j → LoopC Tryz.prog W [] (nslots Tryz.prog 102) (loopOf Tryz.prog 102 0) (S72 h l s i) .ret (R164 j) := by
  have hmm := JV.mem_names (.mk h l)
  simp only [JV.names, JV.hd] at hmm
  refine loopC_inv (fun i : Nat => S72 h l s i) (fun i => i ≤ j) (fun i => j - i) (by simp) ?_
  intro i h1
  obtain ⟨x, hx⟩ := getOf (l := h.names) (i := i) (by omega)
  by_cases hc : (h.names.length : Int) < (l.length : Int)
  · have hme := mem_fst h l hc
    by_cases hi : i < j
    · left
      have hne : ¬ x = s := fun e => hno i hi (by rw [hx, e])
      exact ⟨i + 1, by omega, by omega, body_of_sbodyK mixedz (b72_1 W h l s i x) Fb2_z4 [] [] Fb2_z1⟩
    · right
      have hil : i = j := by omega
      subst hil
      have he : x = s := by rw [hs] at hx; exact (Option.some.inj hx).symm
      exact body_of_sbodyM mixedz (b72_0 W h l s i x) Fb2_z4 [] [] Fb2_z1
  · have hme := mem_snd h l hc
    by_cases hi : i < j
    · left
      have hne : ¬ x = s := fun e => hno i hi (by rw [hx, e])
      exact ⟨i + 1, by omega, by omega, body_of_sbodyK mixedz (b72_4 W h l s i x) Fb2_z4 [] [] Fb2_z1⟩
    · right
      have hil : i = j := by omega
      subst hil
      have he : x = s := by rw [hs] at hx; exact (Option.some.inj hx).symm
      exact body_of_sbodyM mixedz (b72_3 W h l s i x) Fb2_z4 [] [] Fb2_z1
theorem place72 (hl : h.names.length ≤ 2 ^ 50) : Pure Tryz.prog W 102 [encV (.mk h l), .str s] (iA ((JV.mk h l).child s)) := by
  have hmm := JV.mem_names (.mk h l)
  simp only [JV.names, JV.hd] at hmm
  have hc := mut_of_pure (by rfl) (index71 W s)
  by_cases hk : h.kind = 6
  · have e1 : (JV.mk h l).child s = (JV.mk h l).place s := child_obj hk
    rw [e1]
    rcases placeL_cases h s (JV.mk h l).mem hmm with h1 | ⟨j, h1, h2, h3⟩
    · have hlp := loop72 W h l s hl h1 0 (by omega)
      exact goB (by rw [show (JV.mk h l).place s = -1 from placeL_none s (JV.mk h l).names _ 0 h1] <;> rfl) rfl (mut_of_sfun mixedz call72 rfl (p72_3 W h l s (JV.mk h l).mem) Fb2_z5)
    · have hlp := loopR72 W h l s hl h1 h2 h3 0 (by omega)
      exact goB (by rw [show (JV.mk h l).place s = ((0 + j : Nat) : Int) from placeL_some s (JV.mk h l).names _ 0 j h1 h2 h3, Nat.zero_add] <;> rfl) rfl (mut_of_sfun mixedz call72 rfl (q72_0 W h l s j) Fb2_z5)
  by_cases hk5 : h.kind = 5
  case neg => exact goB (by rw [child_none (j := .mk h l) hk (by rintro ⟨q, _⟩; exact hk5 q)] <;> rfl) rfl (mut_of_sfun mixedz call72 rfl (q72_4 W h l s) Fb2_z4)
  cases hx : idxOk s with
  | false => exact goB (by rw [child_none (j := .mk h l) hk (by rintro ⟨_, q, _⟩; rw [hx] at q; cases q)] <;> rfl) rfl (mut_of_sfun mixedz call72 rfl (q72_3 W h l s) Fb2_z4)
  | true =>
    by_cases hi : (idx s : Int) < (l.length : Int)
    · exact goB (by rw [child_ix (j := .mk h l) hk5 hx hi] <;> rfl) rfl (mut_of_sfun mixedz call72 rfl (q72_1 W h l s) Fb2_z4)
    · exact goB (by rw [child_none (j := .mk h l) hk (by rintro ⟨_, _, q⟩; exact hi q)] <;> rfl) rfl (mut_of_sfun mixedz call72 rfl (q72_2 W h l s) Fb2_z4)
end
end Go.Ac

