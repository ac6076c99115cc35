/- What is proved: contracts of functions of this translation, walked; their plain meaning. No condition beyond those that each theorem names. -/
import Derived.Test.YtdalodgajiodhaaGreatDoorIHFb5
set_option linter.all false
namespace Go.Ac
open Go Go.Proofs
set_option maxRecDepth 10000
set_option maxHeartbeats 1000000
theorem Fb6_z1 {kp f ph σ σ'} (h : MatchK kp f ph σ σ' := by exact ⟨by rfl, (by simp only [S95, E95, S30, E30, S202, E202, S149, tOK, List.map_cons, List.map_nil, and_true] <;> exact zt), (by simp only [S95, E95, S30, E30, S202, E202, S149, hOK, List.map_cons, List.map_nil, and_true] <;> exact zh), (by simp only [S95, E95, S30, E30, S202, E202, S149, liveT, List.map_cons, List.map_nil, and_true] <;> exact zv), (by simp only [S95, E95, S30, E30, S202, E202, S149, liveH, List.map_cons, List.map_nil, and_true] <;> exact zv)⟩) : MatchK kp f ph σ σ' := h
theorem Fb6_z5 {cs} (h : Holds cs := by simp only [Holds, and_true] <;> and_intros <;> first | exact zd | ((simp only [defLen1, List.length_cons, List.length_map]; omega); done)) : Holds cs := h
theorem Fb6_z6 {cs} (h : Holds cs := by simp only [Holds, and_true] <;> and_intros <;> first | exact zd | ((simp only [defLen1, List.length_cons, List.length_map]; omega); done) | exact Fb6_z1) : Holds cs := h
def S95 (l : List JV) (s : List UInt8) (p : List (List UInt8)) (acc : List JV) (i : Nat) : AS := ⟨[(1, .sl 1 ((s :: p).map AV.str) []), (7, .gs 100001 0 acc.length), (31, .sl 5 (encVs l) []), (32, iA l.length), (33, iA i)], [(100001, .arr 25 5 (encVs acc) .own)]⟩
def E95 (acc : List JV) : AS := ⟨[(7, .gs 100001 0 acc.length)], [(100001, .arr 25 5 (encVs acc) .own)]⟩
def S30 (h : JH) (l : List JV) (s : List UInt8) (p : List (List UInt8)) (b : Bool) (acc : List JV) (i : Nat) : AS := ⟨[(1, .sl 1 ((s :: p).map AV.str) []), (2, .gp 100000 0), (6, bA b), (8, .gs 100001 0 acc.length), (9, iA i)], [(100000, .box (encV (.mk h l)) .own), (100001, .arr 25 5 (encVs acc) .own)]⟩
def E30 (acc : List JV) : AS := ⟨[(8, .gs 100001 0 acc.length)], [(100001, .arr 25 5 (encVs acc) .own)]⟩
def S202 (l : List JV) (acc : List JV) (i : Nat) : AS := ⟨[(3, .gs 100000 0 acc.length), (6, .sl 5 (encVs l) []), (7, iA l.length), (8, iA i)], [(100000, .arr 25 5 (encVs acc) .own)]⟩
def E202 (acc : List JV) : AS := ⟨[(3, .gs 100000 0 acc.length)], [(100000, .arr 25 5 (encVs acc) .own)]⟩
def S149 (l : List JV) (acc : List JV) (i : Nat) : AS := ⟨[(0, .sl 5 (encVs l) []), (3, .gs 100000 0 acc.length), (4, iA i)], [(100000, .arr 25 5 (encVs acc) .own)]⟩
theorem p95_2 (W : World) (h : JH) (l : List JV) (s : List UInt8) (p : List (List UInt8)) (m k : Int) (b : Bool) (h2 : JH) (l2 : List JV) (r : List JV) : sF W { lp := true, fin := 9, tl := [56, 76, 45] } 45 [eV h l, .sl 1 ((s :: p).map AV.str) []] [] 100000 [ee, cR (.tup [iA m, bA b]) [], bt, bt, bt, bf, ee, cR (iA k) [], bf, .lg, oS (eV h2 l2), aE 1, .lg, ee, cR (sL 5 (encVs r)) [], ee, .fin [] [] (sL 5 (encVs r)) [], ee] [] = .ok (.ret (sL 5 (encVs r)) [], [ee], MatchK [] [] [] { t := [(0, sL 5 (encVs r))], h := [(100000, gB (eV h l))] } { t := [(0, sL 5 (encVs r))], h := [] } :: MZ W 45 [eV h2 l2, AV.sl 1 (List.take (List.map AV.str p).length (List.map AV.str p ++ [])) (List.drop (↑(defLen (sL 1 (.str s :: List.map AV.str p))) : Int).toNat (.str s :: (List.map AV.str p ++ [])))] [] (.ret (sL 5 (encVs r)) []) :: (1 ≤ (↑(defLen (sL 1 (.str s :: List.map AV.str p))) : Int) ∧ (↑(defLen (sL 1 (.str s :: List.map AV.str p))) : Int) ≤ (↑(AV.str s :: List.map AV.str p).length : Int) + 0) :: ((encVs l)[k.toNat]? = some (eV h2 l2)) :: (0 ≤ k) :: (decide (k < 0) = false) :: MZ W 76 [eV h l, .str s] [] (.ret (iA k) []) :: ((!b) = false) :: (d3 (decide (h.kind = 5) = true) [MZ W 56 [.str s] [] (.ret (.tup [iA m, bA b]) [])])) := by kernel_rfl
theorem p95_4 (W : World) (h : JH) (l : List JV) (s : List UInt8) (p : List (List UInt8)) (m k : Int) (b : Bool) (h2 : JH) (l2 : List JV) (r : List JV) : sF W { lp := true, fin := 9, tl := [56, 76, 45] } 45 [eV h l, .sl 1 ((s :: p).map AV.str) []] [] 100000 [ee, cR (.tup [iA m, bA b]) [], bf, bf, bf, ee, cR (iA k) [], bf, .lg, oS (eV h2 l2), aE 1, .lg, ee, cR (sL 5 (encVs r)) [], ee, .fin [] [] (sL 5 (encVs r)) [], ee] [] = .ok (.ret (sL 5 (encVs r)) [], [ee], MatchK [] [] [] { t := [(0, sL 5 (encVs r))], h := [(100000, gB (eV h l))] } { t := [(0, sL 5 (encVs r))], h := [] } :: MZ W 45 [eV h2 l2, AV.sl 1 (List.take (List.map AV.str p).length (List.map AV.str p ++ [])) (List.drop (↑(defLen (sL 1 (.str s :: List.map AV.str p))) : Int).toNat (.str s :: (List.map AV.str p ++ [])))] [] (.ret (sL 5 (encVs r)) []) :: (1 ≤ (↑(defLen (sL 1 (.str s :: List.map AV.str p))) : Int) ∧ (↑(defLen (sL 1 (.str s :: List.map AV.str p))) : Int) ≤ (↑(AV.str s :: List.map AV.str p).length : Int) + 0) :: ((encVs l)[k.toNat]? = some (eV h2 l2)) :: (0 ≤ k) :: (decide (k < 0) = false) :: MZ W 76 [eV h l, .str s] [] (.ret (iA k) []) :: (d3 (decide (h.kind = 5) = false) [MZ W 56 [.str s] [] (.ret (.tup [iA m, bA b]) [])])) := by kernel_rfl
theorem l95_0 (W : World) (h : JH) (l : List JV) (s : List UInt8) (p : List (List UInt8)) (m : Int) (b : Bool) (acc : List JV) : sF W { lp := true, fin := 9, tl := [56, 76, 45] } 45 [eV h l, .sl 1 ((s :: p).map AV.str) []] [] 100000 [ee, cR (.tup [iA m, bA b]) [], bt, bt, bt, bt, ee, .loopM [] [(100001, 5)] (S95 l s p [] 0) (.exit 0) (E95 acc), ee, .fin [] [] (.gs 100001 0 acc.length) [(100001, .arr 25 5 (encVs acc) .own)], ee] [] = .ok (.ret (.gs 100001 0 acc.length) [(100001, .arr 25 5 (encVs acc) .own)], [ee], MatchK [] [] [] { t := [(0, .gs 100001 0 acc.length)], h := [(100001, .arr 25 5 (encVs acc) .own)] } { t := [(0, .gs 100001 0 acc.length)], h := [(100001, .arr 25 5 (encVs acc) .own)] } :: LZ W [] 45 0 (S95 l s p [] 0) (.exit 0) (E95 acc) :: MatchK [] [] [(100001, 5)] { t := [(1, sL 1 (.str s :: List.map AV.str p)), (7, .val (Value.slice none 0 0)), (31, sL 5 (encVs l)), (32, iA (↑(encVs l).length : Int)), (33, iA 0)], h := [(100000, gB (eV h l))] } (S95 l s p [] 0) :: ((!b) = true) :: (d3 (decide (h.kind = 5) = true) [MZ W 56 [.str s] [] (.ret (.tup [iA m, bA b]) [])])) := by kernel_rfl
theorem z95_1 (W : World) (h : JH) (l : List JV) (s : List UInt8) (p : List (List UInt8)) (m k : Int) (b : Bool) : sF W { lp := true, tl := [56, 76, 45] } 45 [eV h l, .sl 1 ((s :: p).map AV.str) []] [] 100000 [ee, cR (.tup [iA m, bA b]) [], bt, bt, bt, bf, ee, cR (iA k) [], bt, ee] [] = .ok (.ret (.val (Value.slice none 0 0)) [], [ee], (decide (k < 0) = true) :: MZ W 76 [eV h l, .str s] [] (.ret (iA k) []) :: ((!b) = false) :: (d3 (decide (h.kind = 5) = true) [MZ W 56 [.str s] [] (.ret (.tup [iA m, bA b]) [])])) := by kernel_rfl
theorem z95_3 (W : World) (h : JH) (l : List JV) (s : List UInt8) (p : List (List UInt8)) (m k : Int) (b : Bool) : sF W { lp := true, tl := [56, 76, 45] } 45 [eV h l, .sl 1 ((s :: p).map AV.str) []] [] 100000 [ee, cR (.tup [iA m, bA b]) [], bf, bf, bf, ee, cR (iA k) [], bt, ee] [] = .ok (.ret (.val (Value.slice none 0 0)) [], [ee], (decide (k < 0) = true) :: MZ W 76 [eV h l, .str s] [] (.ret (iA k) []) :: (d3 (decide (h.kind = 5) = false) [MZ W 56 [.str s] [] (.ret (.tup [iA m, bA b]) [])])) := by kernel_rfl
theorem n95_0 (W : World) (h : JH) (l : List JV) : sF W { lp := true } 45 [eV h l, .sl 1 [] []] [] 100000 [ee] [] = .ok (.ret (.gs 100001 0 1) [(100001, .arr 25 5 [eV h l] .own)], [aE 9999999], []) := by kernel_rfl
theorem p30_0 (W : World) (h : JH) (l : List JV) (s : List UInt8) (p : List (List UInt8)) (m k : Int) (b : Bool) (h2 : JH) (l2 : List JV) (r : List JV) : sF W { lp := true, fin := 9, tl := [101, 102, 85] } 85 [eV h l, .sl 1 ((s :: p).map AV.str) []] [] 100000 [ee, cR (.tup [iA m, bA b]) [], ee, cR (iA k) [], bt, .lg, oS (eV h2 l2), aE 1, .lg, ee, cR (sL 5 (encVs r)) [], ee, .fin [] [] (sL 5 (encVs r)) [], ee] [] = .ok (.ret (sL 5 (encVs r)) [], [ee], [MatchK [] [] [] { t := [(0, sL 5 (encVs r))], h := [(100000, gB (eV h l))] } { t := [(0, sL 5 (encVs r))], h := [] }, MZ W 85 [eV h2 l2, AV.sl 1 (List.take (List.map AV.str p).length (List.map AV.str p ++ [])) (List.drop (↑(defLen (sL 1 (.str s :: List.map AV.str p))) : Int).toNat (.str s :: (List.map AV.str p ++ [])))] [] (.ret (sL 5 (encVs r)) []), 1 ≤ (↑(defLen (sL 1 (.str s :: List.map AV.str p))) : Int) ∧ (↑(defLen (sL 1 (.str s :: List.map AV.str p))) : Int) ≤ (↑(AV.str s :: List.map AV.str p).length : Int) + 0, (encVs l)[k.toNat]? = some (eV h2 l2), 0 ≤ k, decide (0 ≤ k) = true, MZ W 102 [eV h l, .str s] [] (.ret (iA k) []), MZ W 101 [.str s] [] (.ret (.tup [iA m, bA b]) [])]) := by kernel_rfl
theorem l30_1 (W : World) (h : JH) (l : List JV) (s : List UInt8) (p : List (List UInt8)) (m k : Int) (b : Bool) (acc : List JV) : sF W { lp := true, fin := 9, tl := [101, 102, 85] } 85 [eV h l, .sl 1 ((s :: p).map AV.str) []] [] 100000 [ee, cR (.tup [iA m, bA b]) [], ee, cR (iA k) [], bf, ee, .loopM [] [(100001, 5)] (S30 h l s p b [] 0) (.exit 0) (E30 acc), ee, .fin [] [] (.gs 100001 0 acc.length) [(100001, .arr 25 5 (encVs acc) .own)], ee] [] = .ok (.ret (.gs 100001 0 acc.length) [(100001, .arr 25 5 (encVs acc) .own)], [ee], [MatchK [] [] [] { t := [(0, .gs 100001 0 acc.length)], h := [(100001, .arr 25 5 (encVs acc) .own)] } { t := [(0, .gs 100001 0 acc.length)], h := [(100001, .arr 25 5 (encVs acc) .own)] }, LZ W [] 85 0 (S30 h l s p b [] 0) (.exit 0) (E30 acc), MatchK [] [] [(100001, 5)] { t := [(1, sL 1 (.str s :: List.map AV.str p)), (2, .gp 100000 0), (6, bA b), (8, .val (Value.slice none 0 0)), (9, iA 0)], h := [(100000, gB (eV h l))] } (S30 h l s p b [] 0), decide (0 ≤ k) = false, MZ W 102 [eV h l, .str s] [] (.ret (iA k) []), MZ W 101 [.str s] [] (.ret (.tup [iA m, bA b]) [])]) := by kernel_rfl
theorem n30_0 (W : World) (h : JH) (l : List JV) : sF W { lp := true } 85 [eV h l, .sl 1 [] []] [] 100000 [ee] [] = .ok (.ret (.gs 100001 0 1) [(100001, .arr 25 5 [eV h l] .own)], [aE 9999999], []) := by kernel_rfl
theorem b95_0 (W : World) (h : JH) (l : List JV) (s : List UInt8) (p : List (List UInt8)) (h2 : JH) (l2 : List JV) (acc r : List JV) (i : Nat) : sQ W { lp := true, tl := [45] } 45 0 [] [1, 7, 31, 32, 33] (S95 l s p acc i) [bt, aE 1, oS (eV h2 l2), bt, ee, cR (sL 5 (encVs r)) [], aE 1, .lg, .lg, ee] = .ok ((.normal, { t := [(1, sL 1 (.str s :: List.map AV.str p)), (7, .gs 100003 0 (acc.length + (encVs r).length)), (31, sL 5 (encVs l)), (32, iA (↑l.length : Int)), (33, iA (IntKind.i64.wrap ((↑i : Int) + 1)))], h := [(100001, .dead), (100002, gB (eV h2 l2)), (100003, .arr 25 5 (List.take acc.length (encVs acc) ++ encVs r) .own)] }), [ee], [(acc.length + (encVs r).length) * 80 ≤ 140737488355328, (St.own = St.own ∨ St.own = St.shr ∧ acc.length = (encVs acc).length) ∧ acc.length ≤ (encVs acc).length, MZ W 45 [eV h2 l2, sL 1 (.str s :: List.map AV.str p)] [] (.ret (sL 5 (encVs r)) []), decide (h2.kind = 6) = true, (encVs l)[(↑i : Int).toNat]? = some (eV h2 l2), decide ((↑i : Int) < (↑l.length : Int)) = true]) := by kernel_rfl
theorem b95_1 (W : World) (h : JH) (l : List JV) (s : List UInt8) (p : List (List UInt8)) (h2 : JH) (l2 : List JV) (acc : List JV) (i : Nat) : sQ W { lp := true, tl := [45] } 45 0 [] [1, 7, 31, 32, 33] (S95 l s p acc i) [bt, aE 1, oS (eV h2 l2), bf, ee] = .ok ((.normal, { t := [(1, sL 1 (.str s :: List.map AV.str p)), (7, .gs 100001 0 acc.length), (31, sL 5 (encVs l)), (32, iA (↑l.length : Int)), (33, iA (IntKind.i64.wrap ((↑i : Int) + 1)))], h := [(100001, .arr 25 5 (encVs acc) .own), (100002, gB (eV h2 l2))] }), [ee], [decide (h2.kind = 6) = false, (encVs l)[(↑i : Int).toNat]? = some (eV h2 l2), decide ((↑i : Int) < (↑l.length : Int)) = true]) := by kernel_rfl
theorem b95_2 (W : World) (h : JH) (l : List JV) (s : List UInt8) (p : List (List UInt8)) (acc : List JV) (i : Nat) : sQ W { lp := true, tl := [45] } 45 0 [] [1, 3, 7, 8, 31, 32, 33] (S95 l s p acc i) [bf, ee] = .ok ((.exit 0, { t := [(1, sL 1 (.str s :: List.map AV.str p)), (7, .gs 100001 0 acc.length), (31, sL 5 (encVs l)), (32, iA (↑l.length : Int)), (33, iA (↑i : Int))], h := [(100001, .arr 25 5 (encVs acc) .own)] }), [ee], [decide ((↑i : Int) < (↑l.length : Int)) = false]) := by kernel_rfl
theorem b30_0 (W : World) (h : JH) (l : List JV) (s : List UInt8) (p : List (List UInt8)) (b : Bool) (h2 : JH) (l2 : List JV) (acc r : List JV) (i : Nat) : sQ W { lp := true, tl := [85] } 85 0 [] [1, 2, 6, 8, 9] (S30 h l s p b acc i) [bt, bt, bt, bt, bt, bt, bt, bt, bt, bt, aE 1, oS (eV h2 l2), bt, aE 1, oS (eV h2 l2), ee, cR (sL 5 (encVs r)) [], aE 1, .lg, .lg, ee] = .ok ((.normal, { t := [(1, sL 1 (.str s :: List.map AV.str p)), (2, .gp 100000 0), (6, bA b), (8, .gs 100002 0 (acc.length + (encVs r).length)), (9, iA (IntKind.i64.wrap ((↑i : Int) + 1)))], h := [(100000, gB (eV h l)), (100001, .dead), (100002, .arr 25 5 (List.take acc.length (encVs acc) ++ encVs r) .own)] }), [ee], ((acc.length + (encVs r).length) * 80 ≤ 140737488355328) :: ((St.own = St.own ∨ St.own = St.shr ∧ acc.length = (encVs acc).length) ∧ acc.length ≤ (encVs acc).length) :: MZ W 85 [eV h2 l2, sL 1 (.str s :: List.map AV.str p)] [] (.ret (sL 5 (encVs r)) []) :: ((encVs l)[(↑i : Int).toNat]? = some (eV h2 l2)) :: (decide (h2.kind = 6) = true) :: ((encVs l)[(↑i : Int).toNat]? = some (eV h2 l2)) :: (decide ((↑i : Int) < (↑(encVs l).length : Int)) = true) :: ((!b) = true) :: ((!b) = true) :: ((!b) = true) :: ((!b) = true) :: ((!b) = true) :: ((!b) = true) :: (d3 (decide (h.kind = 5) = true) [])) := by kernel_rfl
theorem b30_1 (W : World) (h : JH) (l : List JV) (s : List UInt8) (p : List (List UInt8)) (b : Bool) (h2 : JH) (l2 : List JV) (acc : List JV) (i : Nat) : sQ W { lp := true, tl := [85] } 85 0 [] [1, 2, 6, 8, 9] (S30 h l s p b acc i) [bt, bt, bt, bt, bt, bt, bt, bt, bt, bt, aE 1, oS (eV h2 l2), bf, ee] = .ok ((.normal, { t := [(1, sL 1 (.str s :: List.map AV.str p)), (2, .gp 100000 0), (6, bA b), (8, .gs 100001 0 acc.length), (9, iA (IntKind.i64.wrap ((↑i : Int) + 1)))], h := [(100000, gB (eV h l)), (100001, .arr 25 5 (encVs acc) .own)] }), [ee], (decide (h2.kind = 6) = false) :: ((encVs l)[(↑i : Int).toNat]? = some (eV h2 l2)) :: (decide ((↑i : Int) < (↑(encVs l).length : Int)) = true) :: ((!b) = true) :: ((!b) = true) :: ((!b) = true) :: ((!b) = true) :: ((!b) = true) :: ((!b) = true) :: (d3 (decide (h.kind = 5) = true) [])) := by kernel_rfl
theorem b30_2 (W : World) (h : JH) (l : List JV) (s : List UInt8) (p : List (List UInt8)) (b : Bool) (acc : List JV) (i : Nat) : sQ W { lp := true, tl := [85] } 85 0 [] [1, 2, 3, 6, 7, 8, 9] (S30 h l s p b acc i) [bt, bt, bt, bt, bt, bt, bt, bt, bt, bf, ee] = .ok ((.exit 0, { t := [(1, sL 1 (.str s :: List.map AV.str p)), (2, .gp 100000 0), (6, bA b), (8, .gs 100001 0 acc.length), (9, iA (↑i : Int))], h := [(100000, gB (eV h l)), (100001, .arr 25 5 (encVs acc) .own)] }), [ee], (decide ((↑i : Int) < (↑(encVs l).length : Int)) = false) :: ((!b) = true) :: ((!b) = true) :: ((!b) = true) :: ((!b) = true) :: ((!b) = true) :: ((!b) = true) :: (d3 (decide (h.kind = 5) = true) [])) := by kernel_rfl
theorem b30_3 (W : World) (h : JH) (l : List JV) (s : List UInt8) (p : List (List UInt8)) (b : Bool) (acc : List JV) (i : Nat) : sQ W { lp := true, tl := [85] } 85 0 [] [1, 2, 3, 6, 7, 8, 9] (S30 h l s p b acc i) [bt, bt, bt, bf, bf, bf, bf, bf, bf, ee] = .ok ((.exit 0, { t := [(1, sL 1 (.str s :: List.map AV.str p)), (2, .gp 100000 0), (6, bA b), (8, .gs 100001 0 acc.length), (9, iA (↑i : Int))], h := [(100000, gB (eV h l)), (100001, .arr 25 5 (encVs acc) .own)] }), [aE 9999999], d6 ((!b) = false) (d3 (decide (h.kind = 5) = true) [])) := by kernel_rfl
theorem b30_4 (W : World) (h : JH) (l : List JV) (s : List UInt8) (p : List (List UInt8)) (b : Bool) (acc : List JV) (i : Nat) : sQ W { lp := true, tl := [85] } 85 0 [] [1, 2, 3, 6, 7, 8, 9] (S30 h l s p b acc i) [bf, bf, bf, ee] = .ok ((.exit 0, { t := [(1, sL 1 (.str s :: List.map AV.str p)), (2, .gp 100000 0), (6, bA b), (8, .gs 100001 0 acc.length), (9, iA (↑i : Int))], h := [(100000, gB (eV h l)), (100001, .arr 25 5 (encVs acc) .own)] }), [aE 9999993], d3 (decide (h.kind = 5) = false) []) := by kernel_rfl
theorem call95 : callable Tryz.prog 45 = true := by kernel_rfl
theorem call30 : callable Tryz.prog 85 = true := by kernel_rfl
theorem encVs_app (a b : List JV) : encVs (a ++ b) = encVs a ++ encVs b := by simp only [encVs_map, List.map_append]
theorem encVs_push (acc r : List JV) : List.take acc.length (encVs acc) ++ encVs r = encVs (acc ++ r) := by rw [← encVs_len acc, List.take_length, encVs_app]
theorem cntVs_app : ∀ a b : List JV, cntVs (a ++ b) = cntVs a + cntVs b
  | [], b => by simp [cntVs]
  | x :: a, b => by simp only [List.cons_append, cntVs, cntVs_app a b]; omega
theorem cntVs_flat (f : JV → List JV) (hf : ∀ x, cntVs (f x) ≤ cntV x) : ∀ l : List JV, cntVs (l.flatMap f) ≤ cntVs l
  | [] => by simp [cntVs]
  | x :: l => by
    have := hf x; have := cntVs_flat f hf l
    simp only [List.flatMap_cons, cntVs_app, cntVs]; omega
theorem cntVs_take : ∀ (l : List JV) (i : Nat), cntVs (l.take i) ≤ cntVs l
  | [], i => by simp
  | x :: l, 0 => by simp [cntVs]
  | x :: l, i + 1 => by have := cntVs_take l i; simp only [List.take_succ_cons, cntVs]; omega
theorem oneV_cnt (v : JV) (s : List UInt8) (f : JV → List JV) (hf : ∀ x, cntVs (f x) ≤ cntV x) : cntVs (oneV v s f) ≤ cntV v := by
  unfold oneV
  split
  · simp [cntVs]
  · split
    · rename_i x hx; have := hf x; have := cntV_item hx; omega
    · simp [cntVs]
theorem allV_cnt : ∀ (p : List (List UInt8)) (v : JV), cntVs (allV v p) ≤ cntV v
  | [], v => by rw [allV]; simp [cntVs]
  | s :: p, v => by
    rw [allV]
    split
    · have := cntVs_flat (pickV s p) (fun x => by
        unfold pickV; split
        · exact oneV_cnt _ _ _ (allV_cnt p)
        · simp [cntVs]) v.items
      rw [cntV_eq]; unfold pickV at this; omega
    · exact oneV_cnt _ _ _ (allV_cnt p)
theorem pickV_cnt (s : List UInt8) (p : List (List UInt8)) (x : JV) : cntVs (pickV s p x) ≤ cntV x := by
  unfold pickV; split
  · exact oneV_cnt _ _ _ (allV_cnt p)
  · simp [cntVs]
theorem acc_step {l : List JV} {s : List UInt8} {p : List (List UInt8)} {i : Nat} {x : JV} (h : l[i]? = some x) : (l.take (i + 1)).flatMap (pickV s p) = (l.take i).flatMap (pickV s p) ++ pickV s p x := by
  rw [take_snoc h, List.flatMap_append]; simp
theorem acc_bd (l : List JV) (s : List UInt8) (p : List (List UInt8)) (i : Nat) : ((l.take i).flatMap (pickV s p)).length ≤ cntVs l := by
  have h1 := cntVs_flat (pickV s p) (pickV_cnt s p) (l.take i)
  have h2 := cntVs_take l i
  have h3 := cntVs_len ((l.take i).flatMap (pickV s p))
  omega
def AllC (W : World) (f : FuncId) (x : JV) (q : List (List UInt8)) : Prop := Pure Tryz.prog W f [encV x, .sl 1 (q.map AV.str) []] (.sl 5 (encVs (allV x q)) [])
section
variable (W : World) (l : List JV) (s : List UInt8) (p : List (List UInt8))
theorem loop95 (hl : cntVs l ≤ 2 ^ 30) (hr : ∀ x ∈ l, x.kind = 6 → AllC W 45 x (s :: p)) : ∀ i : Nat, i ≤ l.length → LoopC Tryz.prog W [] (nslots Tryz.prog 45) (loopOf Tryz.prog 45 0) (S95 l s p ((l.take i).flatMap (pickV s p)) i) (.exit 0) (E95 (l.flatMap (pickV s p))) := by
  refine loopC_inv (fun i : Nat => S95 l s p ((l.take i).flatMap (pickV s p)) i) (fun i => i ≤ l.length) (fun i => l.length - i) (by simp) ?_
  intro i h1
  have hlen := cntVs_len l
  have hws : IntKind.i64.wrap ((i : Int) + 1) = ((i + 1 : Nat) : Int) := wrap_succ (by omega)
  by_cases hi : i < l.length
  · left
    obtain ⟨x, hx⟩ := getOf hi
    refine ⟨i + 1, by omega, by omega, ?_⟩
    have hget : (encVs l)[((i : Int)).toNat]? = some (encV x) := by rw [Int.toNat_natCast]; exact encVs_get hx
    have hb0 := acc_bd l s p i
    have hb2 := acc_bd l s p (i + 1)
    rw [acc_step hx] at hb2 ⊢
    generalize (l.take i).flatMap (pickV s p) = acc at hb0 hb2
    by_cases hk : x.kind = 6
    · have hpk := allV_obj (s := s) (p := p) hk
      have hc : MutC Tryz.prog W 45 [encV x, .sl 1 ((s :: p).map AV.str) []] [] (.ret (.sl 5 (encVs (pickV s p x)) []) []) := by
        rw [← hpk]; exact mut_of_pure (by simp only [cloL, encV_clo, Bool.and_self]; rfl) (hr x (List.mem_of_getElem? hx) hk)
      generalize pickV s p x = r at hb2 hc
      have hbr : acc.length + r.length ≤ 2 ^ 30 := by simp only [List.length_append] at hb2; omega
      obtain ⟨h2, l2⟩ := x
      exact body_of_sbodyK mixedz (b95_0 W ⟨0, 0, [], []⟩ l s p h2 l2 acc r i) Fb6_z5 [(100001, 100003)] [] Fb6_z1
    · rw [pickV_not hk, List.append_nil]
      obtain ⟨h2, l2⟩ := x
      exact body_of_sbodyK mixedz (b95_1 W ⟨0, 0, [], []⟩ l s p h2 l2 acc i) Fb6_z5 [] [] Fb6_z1
  · right
    have hil : i = l.length := by omega
    subst hil
    rw [List.take_length]
    exact body_of_sbodyK mixedz (b95_2 W ⟨0, 0, [], []⟩ l s p _ l.length) Fb6_z5 [] [] Fb6_z1
end
theorem steps_obj {u x : JV} {s : List UInt8} {p : List (List UInt8)} (h : u.kind = 5) (h6 : x.kind = 6) : stepsV x (s :: p) < stepsV u (s :: p) := by
  unfold stepsV; rw [if_pos h6, if_neg (by omega)]; omega
theorem steps_tail {u x : JV} {s : List UInt8} {p : List (List UInt8)} : stepsV x p < stepsV u (s :: p) := by
  unfold stepsV; simp only [List.length_cons]; split <;> split <;> omega
theorem defLen1 (s : List UInt8) (p : List (List UInt8)) : defLen (AV.sl 1 (AV.str s :: List.map AV.str p) []) = p.length + 1 := by
  show (AV.str s :: List.map AV.str p).length = _; simp
theorem drop1 {s : List UInt8} {p : List (List UInt8)} : List.drop ((defLen (AV.sl 1 (AV.str s :: List.map AV.str p) []) : Int)).toNat (AV.str s :: (List.map AV.str p ++ [])) = [] := by
  rw [List.append_nil]; exact List.drop_length (l := AV.str s :: List.map AV.str p)
theorem take1 {p : List (List UInt8)} : List.take (List.map AV.str p).length (List.map AV.str p ++ []) = List.map AV.str p := by rw [List.append_nil, List.take_length]
theorem all95 (W : World) : ∀ (n : Nat) (u : JV) (q : List (List UInt8)), stepsV u q < n → cntV u ≤ 2 ^ 30 → AllC W 45 u q
  | 0, u, q, h, _ => by omega
  | n + 1, .mk h l, [], hn, hc => by
    refine pure_leR ?_ (pure_frz1 (mut_of_sfun mixedz call95 rfl (n95_0 W h l) Fb6_z5) rfl (by rfl))
    rw [allV]; exact .refl _
  | n + 1, .mk h l, s :: p, hn, hcn => by
    have hcnl := cntV_len (.mk h l)
    simp only [JV.names, JV.hd] at hcnl
    have hc1 := mut_of_pure (by rfl) (index91 W s)
    unfold AllC
    by_cases hki : h.kind = 5 ∧ idxOk s = false
    · obtain ⟨hk, hx⟩ := hki
      have hb1 : (!idxOk s) = true := by rw [hx]; rfl
      have hcl : cntVs l ≤ 2 ^ 30 := by rw [cntV_eq] at hcn; simp only [JV.items] at hcn; omega
      have hlp := loop95 W l s p hcl (fun x hx6 k6 => all95 W n x (s :: p) (by have := steps_obj (u := .mk h l) (s := s) (p := p) hk k6; omega) (by
          obtain ⟨i, hi⟩ := List.getElem?_of_mem hx6
          have := cntVs_get hi; omega)) 0 (by omega)
      rw [List.take_zero, List.flatMap_nil] at hlp
      rw [show allV (.mk h l) (s :: p) = l.flatMap (pickV s p) from allV_list (v := .mk h l) hk hx]
      have hm := mut_of_sfun mixedz call95 rfl (l95_0 W h l s p (idx s) (idxOk s) (l.flatMap (pickV s p))) Fb6_z6
      exact pure_frz1 hm (by rw [encVs_len]) (encVs_clo _)
    · have ha := allV_one (v := .mk h l) (s := s) (p := p) hki
      rw [ha]
      have hc2 : MutC Tryz.prog W 76 [encV (.mk h l), .str s] [] (.ret (iA ((JV.mk h l).child s)) []) := mut_of_pure (by simp only [cloL, encV_clo]; rfl) (child137 W h l s (by omega))
      by_cases hneg : (JV.mk h l).child s < 0
      · rw [oneV, if_pos hneg]
        by_cases hk : h.kind = 5
        · have hx : idxOk s = true := by cases e : idxOk s with
            | true => rfl
            | false => exact absurd ⟨hk, e⟩ hki
          have hb1 : (!idxOk s) = false := by rw [hx]; rfl
          exact pure_leR (.nil 5) (pure_of_mut rfl (mut_of_sfun mixedz call95 rfl (z95_1 W h l s p (idx s) ((JV.mk h l).child s) (idxOk s)) Fb6_z6))
        · exact pure_leR (.nil 5) (pure_of_mut rfl (mut_of_sfun mixedz call95 rfl (z95_3 W h l s p (idx s) ((JV.mk h l).child s) (idxOk s)) Fb6_z6))
      · obtain ⟨x, hx⟩ := child_get (j := .mk h l) (s := s) (by omega)
        rw [oneV, if_neg hneg, hx]
        have ih := all95 W n x p (by have := steps_tail (u := .mk h l) (x := x) (s := s) (p := p); omega) (by have := cntV_item hx; omega)
        obtain ⟨h2, l2⟩ := x
        have hget : (encVs l)[((JV.mk h l).child s).toNat]? = some (encV (.mk h2 l2)) := encVs_get hx
        have hc3 : MutC Tryz.prog W 45 [encV (.mk h2 l2), .sl 1 (List.take (List.map AV.str p).length (List.map AV.str p ++ [])) (List.drop ((defLen (AV.sl 1 (AV.str s :: List.map AV.str p) []) : Int)).toNat (AV.str s :: (List.map AV.str p ++ [])))] [] (.ret (.sl 5 (encVs (allV (.mk h2 l2) p)) []) []) := by
          rw [drop1, take1]; exact mut_of_pure (by simp only [cloL, encV_clo, Bool.and_self]; rfl) ih
        by_cases hk : h.kind = 5
        · have hxx : idxOk s = true := by cases e : idxOk s with
            | true => rfl
            | false => exact absurd ⟨hk, e⟩ hki
          have hb1 : (!idxOk s) = false := by rw [hxx]; rfl
          exact pure_of_mut rfl (mut_of_sfun mixedz call95 rfl (p95_2 W h l s p (idx s) ((JV.mk h l).child s) (idxOk s) h2 l2 (allV (.mk h2 l2) p)) Fb6_z6)
        · exact pure_of_mut rfl (mut_of_sfun mixedz call95 rfl (p95_4 W h l s p (idx s) ((JV.mk h l).child s) (idxOk s) h2 l2 (allV (.mk h2 l2) p)) Fb6_z6)
section
variable (W : World) (h : JH) (l : List JV) (s : List UInt8) (p : List (List UInt8))
theorem loop30 (hl : cntVs l ≤ 2 ^ 30) (hk5 : h.kind = 5) {b : Bool} (hb : b = false) (hr : ∀ x ∈ l, x.kind = 6 → AllC W 85 x (s :: p)) : ∀ i : Nat, i ≤ l.length → LoopC Tryz.prog W [] (nslots Tryz.prog 85) (loopOf Tryz.prog 85 0) (S30 h l s p b ((l.take i).flatMap (pickV s p)) i) (.exit 0) (E30 (l.flatMap (pickV s p))) := by
  refine loopC_inv (fun i : Nat => S30 h l s p b ((l.take i).flatMap (pickV s p)) i) (fun i => i ≤ l.length) (fun i => l.length - i) (by simp) ?_
  intro i h1
  have hlen := cntVs_len l
  have hb1 : (!b) = true := by rw [hb]; rfl
  have hws : IntKind.i64.wrap ((i : Int) + 1) = ((i + 1 : Nat) : Int) := wrap_succ (by omega)
  by_cases hi : i < l.length
  · left
    obtain ⟨x, hx⟩ := getOf hi
    refine ⟨i + 1, by omega, by omega, ?_⟩
    have hget : (encVs l)[((i : Int)).toNat]? = some (encV x) := by rw [Int.toNat_natCast]; exact encVs_get hx
    have hb0 := acc_bd l s p i
    have hb2 := acc_bd l s p (i + 1)
    rw [acc_step hx] at hb2 ⊢
    generalize (l.take i).flatMap (pickV s p) = acc at hb0 hb2
    by_cases hk : x.kind = 6
    · have hpk := allV_obj (s := s) (p := p) hk
      have hc : MutC Tryz.prog W 85 [encV x, .sl 1 ((s :: p).map AV.str) []] [] (.ret (.sl 5 (encVs (pickV s p x)) []) []) := by
        rw [← hpk]; exact mut_of_pure (by simp only [cloL, encV_clo, Bool.and_self]; rfl) (hr x (List.mem_of_getElem? hx) hk)
      generalize pickV s p x = r at hb2 hc
      have hbr : acc.length + r.length ≤ 2 ^ 30 := by simp only [List.length_append] at hb2; omega
      obtain ⟨h2, l2⟩ := x
      exact body_of_sbodyK mixedz (b30_0 W h l s p b h2 l2 acc r i) Fb6_z5 [(100001, 100002)] [] Fb6_z1
    · rw [pickV_not hk, List.append_nil]
      obtain ⟨h2, l2⟩ := x
      exact body_of_sbodyK mixedz (b30_1 W h l s p b h2 l2 acc i) Fb6_z5 [] [] Fb6_z1
  · right
    have hil : i = l.length := by omega
    subst hil
    rw [List.take_length]
    exact body_of_sbodyK mixedz (b30_2 W h l s p b _ l.length) Fb6_z5 [] [] Fb6_z1
theorem loopN30 {b : Bool} (hki : ¬ (h.kind = 5 ∧ b = false)) : LoopC Tryz.prog W [] (nslots Tryz.prog 85) (loopOf Tryz.prog 85 0) (S30 h l s p b [] 0) (.exit 0) (E30 []) := by
  refine loop_last (by simp) ?_
  by_cases hk : h.kind = 5
  · have hb1 : (!b) = false := by cases b with
      | true => rfl
      | false => exact absurd ⟨hk, rfl⟩ hki
    exact body_of_sbodyK mixedz (b30_3 W h l s p b [] 0) Fb6_z5 [] [] Fb6_z1
  · exact body_of_sbodyK mixedz (b30_4 W h l s p b [] 0) Fb6_z5 [] [] Fb6_z1
end
theorem all30 (W : World) : ∀ (n : Nat) (u : JV) (q : List (List UInt8)), stepsV u q < n → cntV u ≤ 2 ^ 30 → AllC W 85 u q
  | 0, u, q, h, _ => by omega
  | n + 1, .mk h l, [], hn, hc => by
    refine pure_leR ?_ (pure_frz1 (mut_of_sfun mixedz call30 rfl (n30_0 W h l) Fb6_z5) rfl (by rfl))
    rw [allV]; exact .refl _
  | n + 1, .mk h l, s :: p, hn, hcn => by
    have hcnl := cntV_len (.mk h l)
    simp only [JV.names, JV.hd] at hcnl
    have hc1 := mut_of_pure (by rfl) (index71 W s)
    have hc2 : MutC Tryz.prog W 102 [encV (.mk h l), .str s] [] (.ret (iA ((JV.mk h l).child s)) []) := mut_of_pure (by simp only [cloL, encV_clo]; rfl) (place72 W h l s (by omega))
    unfold AllC
    by_cases hneg : (JV.mk h l).child s < 0
    · by_cases hki : h.kind = 5 ∧ idxOk s = false
      · obtain ⟨hk, hx⟩ := hki
        have hcl : cntVs l ≤ 2 ^ 30 := by rw [cntV_eq] at hcn; simp only [JV.items] at hcn; omega
        have hlp := loop30 W h l s p hcl hk hx (fun x hx6 k6 => all30 W n x (s :: p) (by have := steps_obj (u := .mk h l) (s := s) (p := p) hk k6; omega) (by
            obtain ⟨i, hi⟩ := List.getElem?_of_mem hx6
            have := cntVs_get hi; omega)) 0 (by omega)
        rw [List.take_zero, List.flatMap_nil] at hlp
        rw [show allV (.mk h l) (s :: p) = l.flatMap (pickV s p) from allV_list (v := .mk h l) hk hx]
        have hm := mut_of_sfun mixedz call30 rfl (l30_1 W h l s p (idx s) ((JV.mk h l).child s) (idxOk s) (l.flatMap (pickV s p))) Fb6_z6
        exact pure_frz1 hm (by rw [encVs_len]) (encVs_clo _)
      · rw [allV_one (v := .mk h l) (s := s) (p := p) hki, oneV, if_pos hneg]
        have hlp := loopN30 W h l s p hki
        have hm := mut_of_sfun mixedz call30 rfl (l30_1 W h l s p (idx s) ((JV.mk h l).child s) (idxOk s) []) Fb6_z6
        exact pure_frz1 hm rfl (encVs_clo _)
    · have hki : ¬ ((JV.mk h l).kind = 5 ∧ idxOk s = false) := fun ⟨a, b⟩ => by have := child_dead (v := .mk h l) a b; omega
      rw [allV_one (v := .mk h l) (s := s) (p := p) hki]
      obtain ⟨x, hx⟩ := child_get (j := .mk h l) (s := s) (by omega)
      rw [oneV, if_neg hneg, hx]
      have ih := all30 W n x p (by have := steps_tail (u := .mk h l) (x := x) (s := s) (p := p); omega) (by have := cntV_item hx; omega)
      obtain ⟨h2, l2⟩ := x
      have hget : (encVs l)[((JV.mk h l).child s).toNat]? = some (encV (.mk h2 l2)) := encVs_get hx
      have hc3 : MutC Tryz.prog W 85 [encV (.mk h2 l2), .sl 1 (List.take (List.map AV.str p).length (List.map AV.str p ++ [])) (List.drop ((defLen (AV.sl 1 (AV.str s :: List.map AV.str p) []) : Int)).toNat (AV.str s :: (List.map AV.str p ++ [])))] [] (.ret (.sl 5 (encVs (allV (.mk h2 l2) p)) []) []) := by
        rw [drop1, take1]; exact mut_of_pure (by simp only [cloL, encV_clo, Bool.and_self]; rfl) ih
      exact pure_of_mut rfl (mut_of_sfun mixedz call30 rfl (p30_0 W h l s p (idx s) ((JV.mk h l).child s) (idxOk s) h2 l2 (allV (.mk h2 l2) p)) Fb6_z6)
theorem push1 (acc : List JV) (h : JH) (m : List JV) : List.take acc.length (encVs acc) ++ [encV (.mk h m)] = encVs (acc ++ [.mk h m]) := encVs_push acc [.mk h m]
theorem push2 (acc : List JV) (h : JH) (m : List JV) : List.take (acc.length + [encV (.mk h m)].length) (List.take acc.length (encVs acc) ++ [encV (.mk h m)]) ++ encVs m = encVs (acc ++ (.mk h m :: m)) := by
  rw [push1, show acc.length + [encV (.mk h m)].length = (acc ++ [JV.mk h m]).length by simp, encVs_push, List.append_assoc]; rfl
section
variable (W : World) (l : List JV)
end
end Go.Ac

