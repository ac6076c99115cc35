/- What is proved: contracts of functions of this translation, walked; their plain meaning. No condition beyond those that each theorem names. -/
import Derived.Test.YtkpppapgbplokaaGreatDoorHFb4
set_option linter.all false
namespace Go.Ac
open Go Go.Proofs
set_option maxRecDepth 10000
set_option maxHeartbeats 1000000
theorem Fb5_z1 {kp f ph σ σ'} (h : MatchK kp f ph σ σ' := by exact ⟨by rfl, (by simp only [S76, E76, R76, S23, E23, tOK, List.map_cons, List.map_nil, and_true] <;> exact zt), (by simp only [S76, E76, R76, S23, E23, hOK, List.map_cons, List.map_nil, and_true] <;> exact zh), (by simp only [S76, E76, R76, S23, E23, liveT, List.map_cons, List.map_nil, and_true] <;> exact zv), (by simp only [S76, E76, R76, S23, E23, liveH, List.map_cons, List.map_nil, and_true] <;> exact zv)⟩) : MatchK kp f ph σ σ' := h
theorem Fb5_z5 {cs} (h : Holds cs := by simp only [Holds, and_true] <;> and_intros <;> first | exact zd) : Holds cs := h
theorem Fb5_z6 {cs} (h : Holds cs := by simp only [Holds, and_true] <;> and_intros <;> first | exact zd | exact Fb5_z1) : Holds cs := h
def S76 (p : List (List UInt8)) (t : Int) (i : Nat) : AS := ⟨[(5, iA t), (6, .gs 100000 0 i), (10, .sl 1 (p.map AV.str) []), (11, iA p.length), (12, iA i)], [(100000, .arr 9 1 ((p.take i).map AV.str) .own)]⟩
def E76 (p : List (List UInt8)) : AS := ⟨[(6, .gs 100000 0 p.length)], [(100000, .arr 9 1 (p.map AV.str) .own)]⟩
def R76 (t : Int) : AS := ⟨[(2, .val (.slice none 0 0)), (3, iA 20), (4, iA t)], []⟩
def S23 (s : List UInt8) (p : List (List UInt8)) (a i j : Nat) : AS := ⟨[(0, .str s), (5, .gs 100000 0 j), (6, iA a), (7, iA i)], [(100000, .arr 9 1 ((p.take j).map AV.str) .own)]⟩
def E23 (p : List (List UInt8)) : AS := ⟨[(5, .gs 100000 0 p.length)], [(100000, .arr 9 1 (p.map AV.str) .own)]⟩
theorem b76_0 (W : World) (p : List (List UInt8)) (t : Int) (i : Nat) (x : List UInt8) : sQ W { lp := true, tl := [44] } 25 0 [] [2, 3, 4, 5, 6, 10, 11, 12] (S76 p t i) [bt, aE 1, oS (.str x), ee, cR (bA (segB x)) [], bt, bt, bt, bt, ee] = .ok ((.ret, { t := [(2, .val (Value.slice none 0 0)), (3, iA 20), (4, iA t), (5, iA t), (6, .gs 100000 0 i), (10, sL 1 (List.map AV.str p)), (11, iA (↑p.length : Int)), (12, iA (↑i : Int))], h := [(100000, .arr 9 1 (List.map AV.str (List.take i p)) .own)] }), [aE 9999999], d4 ((!segB x) = true) [MZ W 44 [.str x] [] (.ret (bA (segB x)) []), (List.map AV.str p)[(↑i : Int).toNat]? = some (AV.str x), decide ((↑i : Int) < (↑p.length : Int)) = true]) := by kernel_rfl
theorem b76_1 (W : World) (p : List (List UInt8)) (t : Int) (i : Nat) (x : List UInt8) : sQ W { lp := true, tl := [44] } 25 0 [] [2, 3, 4, 5, 6, 10, 11, 12] (S76 p t i) [bt, aE 1, oS (.str x), ee, cR (bA (segB x)) [], bf, bf, bf, bf, bt, ee] = .ok ((.ret, { t := [(2, .val (Value.slice none 0 0)), (3, iA 20), (4, iA t), (5, iA t), (6, .gs 100000 0 i), (10, sL 1 (List.map AV.str p)), (11, iA (↑p.length : Int)), (12, iA (↑i : Int))], h := [(100000, .arr 9 1 (List.map AV.str (List.take i p)) .own)] }), [ee], (decide ((↑i : Int) = 16) = true) :: (d4 ((!segB x) = false) [MZ W 44 [.str x] [] (.ret (bA (segB x)) []), (List.map AV.str p)[(↑i : Int).toNat]? = some (AV.str x), decide ((↑i : Int) < (↑p.length : Int)) = true])) := by kernel_rfl
theorem b76_2 (W : World) (p : List (List UInt8)) (t : Int) (i : Nat) (x : List UInt8) : sQ W { lp := true, tl := [44] } 25 0 [] [2, 3, 4, 5, 6, 10, 11, 12] (S76 p t i) [bt, aE 1, oS (.str x), ee, cR (bA (segB x)) [], bf, bf, bf, bf, bf, aE 1, .lg, .lg, ee] = .ok ((.normal, { t := [(5, iA (IntKind.i64.wrap (t + IntKind.i64.wrap ((↑x.length : Int) + 1)))), (6, .gs 100002 0 (i + [AV.str x].length)), (10, sL 1 (List.map AV.str p)), (11, iA (↑p.length : Int)), (12, iA (IntKind.i64.wrap ((↑i : Int) + 1)))], h := [(100000, .dead), (100001, .arr 9 1 [.str x] .own), (100002, .arr 9 1 (List.take i (List.map AV.str (List.take i p)) ++ [AV.str x]) .own)] }), [ee], ((i + [AV.str x].length) * 16 ≤ 140737488355328) :: ((St.own = St.own ∨ St.own = St.shr ∧ i = (List.map AV.str (List.take i p)).length) ∧ i ≤ (List.map AV.str (List.take i p)).length) :: (decide ((↑i : Int) = 16) = false) :: (d4 ((!segB x) = false) [MZ W 44 [.str x] [] (.ret (bA (segB x)) []), (List.map AV.str p)[(↑i : Int).toNat]? = some (AV.str x), decide ((↑i : Int) < (↑p.length : Int)) = true])) := by kernel_rfl
theorem b76_3 (W : World) (p : List (List UInt8)) (t : Int) (i : Nat) : sQ W { lp := true, tl := [44] } 25 0 [] [2, 3, 4, 5, 6, 10, 11, 12] (S76 p t i) [bf, ee] = .ok ((.exit 0, { t := [(5, iA t), (6, .gs 100000 0 i), (10, sL 1 (List.map AV.str p)), (11, iA (↑p.length : Int)), (12, iA (↑i : Int))], h := [(100000, .arr 9 1 (List.map AV.str (List.take i p)) .own)] }), [ee], [decide ((↑i : Int) < (↑p.length : Int)) = false]) := by kernel_rfl
theorem p76_0 (W : World) (s : List UInt8) (p : List (List UInt8)) (t : Int) : sF W { fin := 9, lp := true, tl := [43] } 25 [.str s] [] 100000 [ee, cR (sL 1 (List.map AV.str p)) [], ee, .loopM [] [(100000, 1)] (S76 p 0 0) (.exit 0) (E76 p), ee, .fin [] [] (.tup [.gs 100000 0 p.length, iA 0, iA 0]) [(100000, .arr 9 1 (List.map AV.str p) .own)], ee] [] = .ok (.ret (.tup [.gs 100000 0 p.length, iA 0, iA 0]) [(100000, .arr 9 1 (List.map AV.str p) .own)], [ee], [MatchK [] [] [] { t := [(0, .tup [.gs 100000 0 p.length, iA 0, iA 0])], h := [(100000, .arr 9 1 (List.map AV.str p) .own)] } { t := [(0, .tup [.gs 100000 0 p.length, iA 0, iA 0])], h := [(100000, .arr 9 1 (List.map AV.str p) .own)] }, LZ W [] 25 0 (S76 p 0 0) (.exit 0) (E76 p), MatchK [] [] [(100000, 1)] { t := [(5, iA 0), (6, .val (Value.slice none 0 0)), (10, sL 1 (List.map AV.str p)), (11, iA (↑(List.map AV.str p).length : Int)), (12, iA 0)], h := [] } (S76 p 0 0), MZ W 43 [.str s, .str [46]] [] (.ret (sL 1 (List.map AV.str p)) [])]) := by kernel_rfl
theorem q76_0 (W : World) (s : List UInt8) (p : List (List UInt8)) (t : Int) : sF W { lp := true, tl := [43] } 25 [.str s] [] 100000 [ee, cR (sL 1 (List.map AV.str p)) [], ee, .loopM [] [(100000, 1)] (S76 p 0 0) .ret (R76 t), ee] [] = .ok (.ret (.tup [.val (Value.slice none 0 0), iA 20, iA t]) [], [ee], [LZ W [] 25 0 (S76 p 0 0) .ret (R76 t), MatchK [] [] [(100000, 1)] { t := [(5, iA 0), (6, .val (Value.slice none 0 0)), (10, sL 1 (List.map AV.str p)), (11, iA (↑(List.map AV.str p).length : Int)), (12, iA 0)], h := [] } (S76 p 0 0), MZ W 43 [.str s, .str [46]] [] (.ret (sL 1 (List.map AV.str p)) [])]) := by kernel_rfl
theorem b23_0 (W : World) (s : List UInt8) (p : List (List UInt8)) (a i j : Nat) (t : Int) (y : UInt8) : sQ W { lp := true, tl := [32] } 14 0 [] [0, 5, 6, 7] (S23 s p a i j) [bt, bt, bt, bt, aE 1, Ans.byt (some y), bt, bt, bt, ee] = .ok ((.normal, { t := [(0, .str s), (5, .gs 100000 0 j), (6, iA (↑a : Int)), (7, iA (IntKind.i64.wrap ((↑i : Int) + 1)))], h := [(100000, .arr 9 1 (List.map AV.str (List.take j p)) .own)] }), [ee], ((!decide ((↑y.toNat : Int) = 46)) = true) :: (d2 (decide ((↑i : Int) < (↑s.length : Int)) = true) ((s[(↑i : Int).toNat]? = some y) :: (d3 (decide ((↑i : Int) < (↑s.length : Int)) = true) [decide ((↑i : Int) ≤ (↑s.length : Int)) = true])))) := by kernel_rfl
theorem b23_1 (W : World) (s : List UInt8) (p : List (List UInt8)) (a i j : Nat) (t : Int) (y : UInt8) : sQ W { lp := true, tl := [32] } 14 0 [] [0, 2, 3, 4, 5, 6, 7] (S23 s p a i j) [bt, bt, bt, bt, aE 1, Ans.byt (some y), bt, bt, bf, bt, bt, bt, bt, bt, bt, bt, ee] = .ok ((.ret, { t := [(0, .str s), (2, .val (Value.slice none 0 0)), (3, iA 20), (4, iA (↑a : Int)), (5, .gs 100000 0 j), (6, iA (↑a : Int)), (7, iA (↑i : Int))], h := [(100000, .arr 9 1 (List.map AV.str (List.take j p)) .own)] }), [aE 9999999], (decide ((↑j : Int) = 16) = true) :: (d6 (decide ((↑j : Int) = 16) = true) (((!decide ((↑y.toNat : Int) = 46)) = false) :: (d2 (decide ((↑i : Int) < (↑s.length : Int)) = true) ((s[(↑i : Int).toNat]? = some y) :: (d3 (decide ((↑i : Int) < (↑s.length : Int)) = true) [decide ((↑i : Int) ≤ (↑s.length : Int)) = true])))))) := by kernel_rfl
theorem b23_2 (W : World) (s : List UInt8) (p : List (List UInt8)) (a i j : Nat) (t : Int) (x : List UInt8) (y : UInt8) : sQ W { lp := true, tl := [32] } 14 0 [] [0, 2, 3, 4, 5, 6, 7] (S23 s p a i j) [bt, bt, bt, bt, aE 1, Ans.byt (some y), bt, bt, bf, bf, bf, bf, bf, aE 1, .lg, bf, ee, cR (bA (segB x)) [], bf, bf, bt, ee] = .ok ((.ret, { t := [(0, .str s), (2, .val (Value.slice none 0 0)), (3, iA 20), (4, iA (↑a : Int)), (5, .gs 100000 0 j), (6, iA (↑a : Int)), (7, iA (↑i : Int))], h := [(100000, .arr 9 1 (List.map AV.str (List.take j p)) .own)] }), [ee], ((!segB x) = true) :: (d2 (decide ((↑j : Int) = 16) = false) (MZ W 32 [.str (List.drop (↑a : Int).toNat (List.take (↑i : Int).toNat s))] [] (.ret (bA (segB x)) []) :: (decide ((↑j : Int) = 16) = false) :: ((↑a : Int) ≤ (↑i : Int) ∧ (↑i : Int) ≤ (↑s.length : Int)) :: (d4 (decide ((↑j : Int) = 16) = false) (((!decide ((↑y.toNat : Int) = 46)) = false) :: (d2 (decide ((↑i : Int) < (↑s.length : Int)) = true) ((s[(↑i : Int).toNat]? = some y) :: (d3 (decide ((↑i : Int) < (↑s.length : Int)) = true) [decide ((↑i : Int) ≤ (↑s.length : Int)) = true])))))))) := by kernel_rfl
theorem b23_3 (W : World) (s : List UInt8) (p : List (List UInt8)) (a i j : Nat) (t : Int) (x : List UInt8) (y : UInt8) : sQ W { lp := true, tl := [32] } 14 0 [] [0, 5, 6, 7] (S23 s p a i j) [bt, bt, bt, bt, aE 1, Ans.byt (some y), bt, bt, bf, bf, bf, bf, bf, aE 1, .lg, bf, ee, cR (bA (segB x)) [], bf, bf, bf, aE 1, .lg, aE 1, .lg, .lg, ee] = .ok ((.normal, { t := [(0, .str s), (5, .gs 100002 0 (j + [AV.str (List.drop (↑a : Int).toNat (List.take (↑i : Int).toNat s))].length)), (6, iA (IntKind.i64.wrap ((↑i : Int) + 1))), (7, iA (IntKind.i64.wrap ((↑i : Int) + 1)))], h := [(100000, .dead), (100001, .arr 9 1 [.str (List.drop (↑a : Int).toNat (List.take (↑i : Int).toNat s))] .own), (100002, .arr 9 1 (List.take j (List.map AV.str (List.take j p)) ++ [AV.str (List.drop (↑a : Int).toNat (List.take (↑i : Int).toNat s))]) .own)] }), [ee], ((j + [AV.str (List.drop (↑a : Int).toNat (List.take (↑i : Int).toNat s))].length) * 16 ≤ 140737488355328) :: ((St.own = St.own ∨ St.own = St.shr ∧ j = (List.map AV.str (List.take j p)).length) ∧ j ≤ (List.map AV.str (List.take j p)).length) :: ((↑a : Int) ≤ (↑i : Int) ∧ (↑i : Int) ≤ (↑s.length : Int)) :: ((!segB x) = false) :: (d2 (decide ((↑j : Int) = 16) = false) (MZ W 32 [.str (List.drop (↑a : Int).toNat (List.take (↑i : Int).toNat s))] [] (.ret (bA (segB x)) []) :: (decide ((↑j : Int) = 16) = false) :: ((↑a : Int) ≤ (↑i : Int) ∧ (↑i : Int) ≤ (↑s.length : Int)) :: (d4 (decide ((↑j : Int) = 16) = false) (((!decide ((↑y.toNat : Int) = 46)) = false) :: (d2 (decide ((↑i : Int) < (↑s.length : Int)) = true) ((s[(↑i : Int).toNat]? = some y) :: (d3 (decide ((↑i : Int) < (↑s.length : Int)) = true) [decide ((↑i : Int) ≤ (↑s.length : Int)) = true])))))))) := by kernel_rfl
theorem b23_4 (W : World) (s : List UInt8) (p : List (List UInt8)) (a i j : Nat) (t : Int) : sQ W { lp := true, tl := [32] } 14 0 [] [0, 2, 3, 4, 5, 6, 7] (S23 s p a i j) [bt, bf, bf, bf, bf, bf, aE 1, bt, bt, bt, bt, bt, bt, bt, ee] = .ok ((.ret, { t := [(0, .str s), (2, .val (Value.slice none 0 0)), (3, iA 20), (4, iA (↑a : Int)), (5, .gs 100000 0 j), (6, iA (↑a : Int)), (7, iA (↑i : Int))], h := [(100000, .arr 9 1 (List.map AV.str (List.take j p)) .own)] }), [aE 9999999], (decide ((↑j : Int) = 16) = true) :: (d6 (decide ((↑j : Int) = 16) = true) ((decide ((↑i : Int) < (↑s.length : Int)) = false) :: (d4 (decide ((↑i : Int) < (↑s.length : Int)) = false) [decide ((↑i : Int) ≤ (↑s.length : Int)) = true])))) := by kernel_rfl
theorem b23_5 (W : World) (s : List UInt8) (p : List (List UInt8)) (a i j : Nat) (t : Int) (x : List UInt8) : sQ W { lp := true, tl := [32] } 14 0 [] [0, 2, 3, 4, 5, 6, 7] (S23 s p a i j) [bt, bf, bf, bf, bf, bf, aE 1, bf, bf, bf, bf, aE 1, .lg, bf, ee, cR (bA (segB x)) [], bf, bf, bt, ee] = .ok ((.ret, { t := [(0, .str s), (2, .val (Value.slice none 0 0)), (3, iA 20), (4, iA (↑a : Int)), (5, .gs 100000 0 j), (6, iA (↑a : Int)), (7, iA (↑i : Int))], h := [(100000, .arr 9 1 (List.map AV.str (List.take j p)) .own)] }), [ee], ((!segB x) = true) :: (d2 (decide ((↑j : Int) = 16) = false) (MZ W 32 [.str (List.drop (↑a : Int).toNat (List.take (↑i : Int).toNat s))] [] (.ret (bA (segB x)) []) :: (decide ((↑j : Int) = 16) = false) :: ((↑a : Int) ≤ (↑i : Int) ∧ (↑i : Int) ≤ (↑s.length : Int)) :: (d4 (decide ((↑j : Int) = 16) = false) ((decide ((↑i : Int) < (↑s.length : Int)) = false) :: (d4 (decide ((↑i : Int) < (↑s.length : Int)) = false) [decide ((↑i : Int) ≤ (↑s.length : Int)) = true])))))) := by kernel_rfl
theorem b23_6 (W : World) (s : List UInt8) (p : List (List UInt8)) (a i j : Nat) (t : Int) (x : List UInt8) : sQ W { lp := true, tl := [32] } 14 0 [] [0, 5, 6, 7] (S23 s p a i j) [bt, bf, bf, bf, bf, bf, aE 1, bf, bf, bf, bf, aE 1, .lg, bf, ee, cR (bA (segB x)) [], bf, bf, bf, aE 1, .lg, aE 1, .lg, .lg, ee] = .ok ((.normal, { t := [(0, .str s), (5, .gs 100002 0 (j + [AV.str (List.drop (↑a : Int).toNat (List.take (↑i : Int).toNat s))].length)), (6, iA (IntKind.i64.wrap ((↑i : Int) + 1))), (7, iA (IntKind.i64.wrap ((↑i : Int) + 1)))], h := [(100000, .dead), (100001, .arr 9 1 [.str (List.drop (↑a : Int).toNat (List.take (↑i : Int).toNat s))] .own), (100002, .arr 9 1 (List.take j (List.map AV.str (List.take j p)) ++ [AV.str (List.drop (↑a : Int).toNat (List.take (↑i : Int).toNat s))]) .own)] }), [ee], ((j + [AV.str (List.drop (↑a : Int).toNat (List.take (↑i : Int).toNat s))].length) * 16 ≤ 140737488355328) :: ((St.own = St.own ∨ St.own = St.shr ∧ j = (List.map AV.str (List.take j p)).length) ∧ j ≤ (List.map AV.str (List.take j p)).length) :: ((↑a : Int) ≤ (↑i : Int) ∧ (↑i : Int) ≤ (↑s.length : Int)) :: ((!segB x) = false) :: (d2 (decide ((↑j : Int) = 16) = false) (MZ W 32 [.str (List.drop (↑a : Int).toNat (List.take (↑i : Int).toNat s))] [] (.ret (bA (segB x)) []) :: (decide ((↑j : Int) = 16) = false) :: ((↑a : Int) ≤ (↑i : Int) ∧ (↑i : Int) ≤ (↑s.length : Int)) :: (d4 (decide ((↑j : Int) = 16) = false) ((decide ((↑i : Int) < (↑s.length : Int)) = false) :: (d4 (decide ((↑i : Int) < (↑s.length : Int)) = false) [decide ((↑i : Int) ≤ (↑s.length : Int)) = true])))))) := by kernel_rfl
theorem b23_7 (W : World) (s : List UInt8) (p : List (List UInt8)) (a i j : Nat) (t : Int) : sQ W { lp := true, tl := [32] } 14 0 [] [0, 2, 3, 4, 5, 6, 7] (S23 s p a i j) [bf, ee] = .ok ((.exit 0, { t := [(0, .str s), (5, .gs 100000 0 j), (6, iA (↑a : Int)), (7, iA (↑i : Int))], h := [(100000, .arr 9 1 (List.map AV.str (List.take j p)) .own)] }), [ee], [decide ((↑i : Int) ≤ (↑s.length : Int)) = false]) := by kernel_rfl
theorem p23_0 (W : World) (s : List UInt8) (p : List (List UInt8)) (t : Int) : sF W { fin := 9, lp := true } 14 [.str s] [] 100000 [ee, .loopM [] [(100000, 1)] (S23 s p 0 0 0) (.exit 0) (E23 p), ee, .fin [] [] (.tup [.gs 100000 0 p.length, iA 0, iA 0]) [(100000, .arr 9 1 (List.map AV.str p) .own)], ee] [] = .ok (.ret (.tup [.gs 100000 0 p.length, iA 0, iA 0]) [(100000, .arr 9 1 (List.map AV.str p) .own)], [ee], [MatchK [] [] [] { t := [(0, .tup [.gs 100000 0 p.length, iA 0, iA 0])], h := [(100000, .arr 9 1 (List.map AV.str p) .own)] } { t := [(0, .tup [.gs 100000 0 p.length, iA 0, iA 0])], h := [(100000, .arr 9 1 (List.map AV.str p) .own)] }, LZ W [] 14 0 (S23 s p 0 0 0) (.exit 0) (E23 p), MatchK [] [] [(100000, 1)] { t := [(0, .str s), (5, .val (Value.slice none 0 0)), (6, iA 0), (7, iA 0)], h := [] } (S23 s p 0 0 0)]) := by kernel_rfl
theorem q23_0 (W : World) (s : List UInt8) (p : List (List UInt8)) (t : Int) : sF W { lp := true } 14 [.str s] [] 100000 [ee, .loopM [] [(100000, 1)] (S23 s p 0 0 0) .ret (R76 t), ee] [] = .ok (.ret (.tup [.val (Value.slice none 0 0), iA 20, iA t]) [], [ee], [LZ W [] 14 0 (S23 s p 0 0 0) .ret (R76 t), MatchK [] [] [(100000, 1)] { t := [(0, .str s), (5, .val (Value.slice none 0 0)), (6, iA 0), (7, iA 0)], h := [] } (S23 s p 0 0 0)]) := by kernel_rfl
theorem call76 : callable Tryz.prog 25 = true := by kernel_rfl
theorem call23 : callable Tryz.prog 14 = true := by kernel_rfl
def parseAV (s : List UInt8) : AV := .tup [.sl 1 ((parseP s).map AV.str) [], iA (parseE s), iA (parseA s)]
theorem push_eq {p : List (List UInt8)} {i : Nat} {x : List UInt8} (hx : p[i]? = some x) : List.take i (List.map AV.str (List.take i p)) ++ [AV.str x] = List.map AV.str (List.take (i + 1) p) := by
  rw [take_snoc hx, List.map_append, ← List.map_take, List.take_take, Nat.min_self]; rfl
theorem indexByte_at (c : UInt8) : ∀ (l : List UInt8) (m : Nat), l[m]? = some c → (∀ k, k < m → l[k]? ≠ some c) → Lib.indexByte l c = (m : Int)
  | [], m, h, _ => by simp at h
  | x :: l, 0, h, _ => by
    have h : x = c := by simpa using h
    simp [Lib.indexByte, h]
  | x :: l, m + 1, h, hn => by
    have h0 : ¬ x = c := fun e => hn 0 (by omega) (by simp [e])
    have ih := indexByte_at c l m (by simpa using h) fun k hk => by have := hn (k + 1) (by omega); simpa using this
    simp only [Lib.indexByte, h0, beq_iff_eq, if_false, ih]
    split <;> omega
section
variable (W : World) (s : List UInt8) (p : List (List UInt8))
theorem step76 (hp : ∀ x ∈ p, x.length ≤ 2 ^ 30) (i : Nat) (t : Int) (hi : i < p.length) (h16 : i ≤ 16) (h0 : 0 ≤ t) (ht : t ≤ i * (2 ^ 30 + 1)) (x : List UInt8) (hx : p[i]? = some x) (hb : ¬ (segB x = false ∨ i = 16)) :
    BodyC Tryz.prog W [] (nslots Tryz.prog 25) (loopOf Tryz.prog 25 0) (S76 p t i) .normal (S76 p (t + (x.length + 1)) (i + 1)) := by
  have hxl := hp x (List.mem_of_getElem? hx)
  have hws : IntKind.i64.wrap ((i : Int) + 1) = ((i + 1 : Nat) : Int) := wrap_succ (by omega)
  have hwt : IntKind.i64.wrap (t + IntKind.i64.wrap ((x.length : Int) + 1)) = t + ((x.length : Int) + 1) := by rw [IntWalk.i64_in ((x.length : Int) + 1) (by omega), IntWalk.i64_in _ (by omega)]
  have hc := mut_of_pure (by rfl) (segment116 W x)
  have hsx : (!segB x) = false := by cases e : segB x with
    | true => rfl
    | false => exact absurd (.inl e) hb
  have h16' : ¬ i = 16 := fun e => hb (.inr e)
  have hget : (List.map AV.str p)[((i : Int)).toNat]? = some (AV.str x) := by rw [Int.toNat_natCast]; exact strs_get hx
  exact body_of_sbodyK mixedz (b76_2 W p t i x) Fb5_z5 [(100000, 100002)] [] Fb5_z1
theorem loop76 (hp : ∀ x ∈ p, x.length ≤ 2 ^ 30) (hn : scanV p 0 0 = none) : ∀ q : Nat × Int, (q.1 ≤ p.length ∧ q.1 ≤ 16 ∧ scanV p 0 0 = scanV (p.drop q.1) q.1 q.2 ∧ 0 ≤ q.2 ∧ q.2 ≤ q.1 * (2 ^ 30 + 1)) →
    LoopC Tryz.prog W [] (nslots Tryz.prog 25) (loopOf Tryz.prog 25 0) (S76 p q.2 q.1) (.exit 0) (E76 p) := by
  refine loopC_inv (fun q : Nat × Int => S76 p q.2 q.1) (fun q => q.1 ≤ p.length ∧ q.1 ≤ 16 ∧ scanV p 0 0 = scanV (p.drop q.1) q.1 q.2 ∧ 0 ≤ q.2 ∧ q.2 ≤ q.1 * (2 ^ 30 + 1)) (fun q => p.length - q.1) (by simp) ?_
  rintro ⟨i, t⟩ ⟨h1, h2, h3, h4, h5⟩
  simp only at h1 h2 h3 h4 h5
  by_cases hi : i < p.length
  · left
    obtain ⟨x, hx⟩ := getOf hi
    have hxl := hp x (List.mem_of_getElem? hx)
    by_cases hb : segB x = false ∨ i = 16
    · exfalso
      rw [hn, scan_stop hx hb] at h3; cases h3
    · exact ⟨(i + 1, t + (x.length + 1)), ⟨by simp only; omega, by simp only; omega, by simp only; rw [h3]; exact scan_step hx hb, by simp only; omega, by simp only; omega⟩, by simp only; omega, step76 W p hp i t hi h2 h4 h5 x hx hb⟩
  · right
    have hil : i = p.length := by omega
    subst hil
    exact body_of_sbodyK mixedz (b76_3 W p t p.length) Fb5_z5 [] [] Fb5_z1
theorem loopR76 (hp : ∀ x ∈ p, x.length ≤ 2 ^ 30) {t0 : Int} (hn : scanV p 0 0 = some t0) : ∀ q : Nat × Int, (q.1 ≤ p.length ∧ q.1 ≤ 16 ∧ scanV p 0 0 = scanV (p.drop q.1) q.1 q.2 ∧ 0 ≤ q.2 ∧ q.2 ≤ q.1 * (2 ^ 30 + 1)) →
    LoopC Tryz.prog W [] (nslots Tryz.prog 25) (loopOf Tryz.prog 25 0) (S76 p q.2 q.1) .ret (R76 t0) := by
  refine loopC_inv (fun q : Nat × Int => S76 p q.2 q.1) (fun q => q.1 ≤ p.length ∧ q.1 ≤ 16 ∧ scanV p 0 0 = scanV (p.drop q.1) q.1 q.2 ∧ 0 ≤ q.2 ∧ q.2 ≤ q.1 * (2 ^ 30 + 1)) (fun q => p.length - q.1) (by simp) ?_
  rintro ⟨i, t⟩ ⟨h1, h2, h3, h4, h5⟩
  simp only at h1 h2 h3 h4 h5
  by_cases hi : i < p.length
  · obtain ⟨x, hx⟩ := getOf hi
    have hxl := hp x (List.mem_of_getElem? hx)
    by_cases hb : segB x = false ∨ i = 16
    · right
      rw [hn, scan_stop hx hb] at h3
      obtain rfl : t0 = t := by simpa using h3
      have hget : (List.map AV.str p)[((i : Int)).toNat]? = some (AV.str x) := by rw [Int.toNat_natCast]; exact strs_get hx
      have hc := mut_of_pure (by rfl) (segment116 W x)
      cases e : segB x with
      | false =>
        have hsx : (!segB x) = true := by rw [e]; rfl
        exact body_of_sbodyK mixedz (b76_0 W p t0 i x) Fb5_z5 [] [] Fb5_z1
      | true =>
        have hsx : (!segB x) = false := by rw [e]; rfl
        have h16 : i = 16 := by rcases hb with hb | hb; (rw [e] at hb; cases hb); exact hb
        exact body_of_sbodyK mixedz (b76_1 W p t0 i x) Fb5_z5 [] [] Fb5_z1
    · left
      exact ⟨(i + 1, t + (x.length + 1)), ⟨by simp only; omega, by simp only; omega, by simp only; rw [h3]; exact scan_step hx hb, by simp only; omega, by simp only; omega⟩, by simp only; omega, step76 W p hp i t hi h2 h4 h5 x hx hb⟩
  · exfalso
    have hil : i = p.length := by omega
    subst hil
    rw [hn, List.drop_length] at h3
    cases h3
theorem Parse76 (hs : s.length ≤ 2 ^ 30) : Pure Tryz.prog W 25 [.str s] (parseAV s) := by
  have hp : ∀ x ∈ splitD 46 s, x.length ≤ 2 ^ 30 := fun x hx => by have := splitD_part 46 s x hx; omega
  have hc := mut_of_pure (by rfl) (Split115 W s hs)
  have hpl : (splitD 46 s).length ≤ 2 ^ 30 + 1 := by have := splitD_len 46 s; have := countByte_le s 46; omega
  cases hq : scanV (splitD 46 s) 0 0 with
  | none =>
    have hlp := loop76 W _ hp hq (0, 0) ⟨by simp, by simp, by simp, by simp, by simp⟩
    have h := mut_of_sfun mixedz call76 rfl (p76_0 W s (splitD 46 s) 0) Fb5_z6
    exact pure_frz [(100000, .arr 9 1 ((splitD 46 s).map AV.str) .own)] h (by intro q hq; simp only [List.mem_singleton] at hq; subst hq; exact ⟨by simp [hg], by simp [Frzable, cloL_str]⟩) (by
      simp [parseAV, parseP, parseE, parseA, hq, clA, clL, lk, iA]; try exact List.take_of_length_le (by simp)) rfl
  | some t0 =>
    have hlp := loopR76 W _ hp hq (0, 0) ⟨by simp, by simp, by simp, by simp, by simp⟩
    refine pure_leR ?_ (pure_of_mut (by rfl) (mut_of_sfun mixedz call76 rfl (q76_0 W s (splitD 46 s) t0) Fb5_z6))
    unfold parseAV parseP parseE parseA
    rw [hq]
    exact .tup (.cons (.nil 1) (.cons (.refl _) (.cons (.refl _) .nil)))
theorem scan_head {a i j : Nat} (ha : a ≤ i) (hi : i ≤ s.length) (hsp : splitD 46 (s.drop a) = p.drop j) (hno : ∀ k, a ≤ k → k < i → s[k]? ≠ some 46) (hend : i = s.length ∨ s[i]? = some 46) :
    p[j]? = some (List.drop a (List.take i s)) ∧ (List.drop a (List.take i s)).length = i - a ∧ (i = s.length → j + 1 = p.length) ∧ (s[i]? = some 46 → splitD 46 (s.drop (i + 1)) = p.drop (j + 1)) := by
  have hlen : (List.drop a (List.take i s)).length = i - a := by simp only [List.length_drop, List.length_take]; omega
  have hdt : List.drop a (List.take i s) = (s.drop a).take (i - a) := by rw [List.drop_take]
  rcases hend with he | he
  · have hneg : Lib.indexByte (s.drop a) 46 < 0 := (indexByte_neg 46 _).2 fun hm => by
      obtain ⟨k, hk⟩ := List.getElem?_of_mem hm
      rw [List.getElem?_drop] at hk
      have := (List.getElem?_eq_some_iff.1 hk).1
      exact hno (a + k) (by omega) (by omega) hk
    have e1 := splitD_one 46 _ hneg
    have e2 := hsp.symm.trans e1
    refine ⟨?_, hlen, fun _ => ?_, fun h => ?_⟩
    · have := congrArg List.head? e2
      rw [List.head?_drop] at this
      rw [this, hdt, List.take_of_length_le (by simp only [List.length_drop]; omega)]; rfl
    · have := congrArg List.length e2
      simp only [List.length_drop, List.length_cons, List.length_nil] at this; omega
    · have := (List.getElem?_eq_some_iff.1 h).1; omega
  · have hil := (List.getElem?_eq_some_iff.1 he).1
    have hat : Lib.indexByte (s.drop a) 46 = ((i - a : Nat) : Int) := indexByte_at 46 _ _ (by rw [List.getElem?_drop]; rw [show a + (i - a) = i by omega]; exact he) fun k hk => by
      rw [List.getElem?_drop]; exact hno (a + k) (by omega) (by omega)
    obtain ⟨e1, _⟩ := splitD_cut 46 _ _ hat
    have e2 := hsp.symm.trans e1
    refine ⟨?_, hlen, fun h => by omega, fun _ => ?_⟩
    · have := congrArg List.head? e2
      rw [List.head?_drop] at this
      rw [this, hdt]; rfl
    · have := congrArg List.tail e2
      rw [List.tail_drop, List.tail_cons, List.drop_drop] at this
      rw [this]; congr 2; omega
def ScanI (s : List UInt8) (p : List (List UInt8)) (q : Nat × Nat × Nat) : Prop :=
  (q.1 ≤ s.length ∧ q.2.1 ≤ q.1 ∧ splitD 46 (s.drop q.2.1) = p.drop q.2.2 ∧ (∀ k, q.2.1 ≤ k → k < q.1 → s[k]? ≠ some 46) ∧ scanV p 0 0 = scanV (p.drop q.2.2) q.2.2 q.2.1 ∧ q.2.2 ≤ 16) ∨ (q.1 = s.length + 1 ∧ q.2.2 = p.length ∧ scanV p 0 0 = none)
theorem step23 (hs : s.length ≤ 2 ^ 50) (hpl : p.length ≤ 2 ^ 50 + 1) (i a j : Nat) (h : ScanI s p (i, a, j)) (hi : i ≤ s.length) :
    (∃ q, ScanI s p q ∧ s.length + 1 - q.1 < s.length + 1 - i ∧ BodyC Tryz.prog W [] (nslots Tryz.prog 14) (loopOf Tryz.prog 14 0) (S23 s p a i j) .normal (S23 s p q.2.1 q.1 q.2.2)) ∨
    (∃ t : Int, scanV p 0 0 = some t ∧ BodyC Tryz.prog W [] (nslots Tryz.prog 14) (loopOf Tryz.prog 14 0) (S23 s p a i j) .ret (R76 t)) := by
  rcases h with ⟨_, h2, h3, h4, h5, h6⟩ | ⟨h1, _, _⟩
  case inr => simp only at h1; omega
  simp only at h2 h3 h4 h5 h6
  have hws : IntKind.i64.wrap ((i : Int) + 1) = ((i + 1 : Nat) : Int) := wrap_succ (by omega)
  by_cases hl : i < s.length
  · obtain ⟨y, hy⟩ := getOf hl
    have hget : s[((i : Int)).toNat]? = some y := by rw [Int.toNat_natCast]; exact hy
    by_cases hd : (y.toNat : Int) = 46
    case neg =>
      left
      have hne : s[i]? ≠ some 46 := by rw [hy]; intro e; simp only [Option.some.injEq] at e; exact hd ((u8_eq y 46 46 rfl).2 e)
      have hsy : (!decide ((y.toNat : Int) = 46)) = true := by rw [decide_eq_false hd]; rfl
      exact ⟨(i + 1, a, j), .inl ⟨by simp only; omega, by simp only; omega, h3, fun k k1 k2 => by
        simp only at k1 k2
        by_cases e : k = i
        · subst e; exact hne
        · exact h4 k k1 (by omega), h5, h6⟩, by simp only; omega, body_of_sbodyK mixedz (b23_0 W s p a i j 0 y) Fb5_z5 [] [] Fb5_z1⟩
    have hdot : s[i]? = some 46 := by rw [hy, (u8_eq y 46 46 rfl).1 hd]
    have hsy : (!decide ((y.toNat : Int) = 46)) = false := by rw [decide_eq_true hd]; rfl
    obtain ⟨g1, g2, _, g4⟩ := scan_head s p h2 hi h3 h4 (.inr hdot)
    have hjl : j < p.length := (List.getElem?_eq_some_iff.1 g1).1
    generalize hx : List.drop a (List.take i s) = x at g1 g2
    have hc : MutC Tryz.prog W 32 [AV.str (List.drop ((a : Int)).toNat (List.take ((i : Int)).toNat s))] [] (OutC.ret (bA (segB x)) []) := by
      rw [Int.toNat_natCast, Int.toNat_natCast, hx]; exact mut_of_pure (by rfl) (segment68 W x (by omega))
    have hone : ([AV.str (List.drop ((a : Int)).toNat (List.take ((i : Int)).toNat s))] : List AV).length = 1 := rfl
    have hxx : AV.str (List.drop ((a : Int)).toNat (List.take ((i : Int)).toNat s)) = AV.str x := by rw [Int.toNat_natCast, Int.toNat_natCast, hx]
    by_cases h16 : j = 16
    · exact .inr ⟨a, by rw [h5, scan_stop g1 (.inr h16)], body_of_sbodyK mixedz (b23_1 W s p a i j 0 y) Fb5_z5 [] [] Fb5_z1⟩
    cases e : segB x with
    | false =>
      have hsx : (!segB x) = true := by rw [e]; rfl
      exact .inr ⟨a, by rw [h5, scan_stop g1 (.inl e)], body_of_sbodyK mixedz (b23_2 W s p a i j 0 x y) Fb5_z5 [] [] Fb5_z1⟩
    | true =>
      have hsx : (!segB x) = false := by rw [e]; rfl
      left
      refine ⟨(i + 1, i + 1, j + 1), .inl ⟨by simp only; omega, Nat.le_refl _, g4 hdot, fun k k1 k2 => by simp only at k1 k2; omega, ?_, by simp only; omega⟩, by simp only; omega, body_of_sbodyK mixedz (b23_3 W s p a i j 0 x y) Fb5_z5 [(100000, 100002)] [] Fb5_z1⟩
      rw [h5, scan_step g1 (by rintro (h | h); (rw [e] at h; cases h); exact h16 h)]
      simp only; congr 1; omega
  · have hil : i = s.length := by omega
    obtain ⟨g1, g2, g3, _⟩ := scan_head s p h2 hi h3 h4 (.inl hil)
    have hjl : j < p.length := (List.getElem?_eq_some_iff.1 g1).1
    generalize hx : List.drop a (List.take i s) = x at g1 g2
    have hc : MutC Tryz.prog W 32 [AV.str (List.drop ((a : Int)).toNat (List.take ((i : Int)).toNat s))] [] (OutC.ret (bA (segB x)) []) := by
      rw [Int.toNat_natCast, Int.toNat_natCast, hx]; exact mut_of_pure (by rfl) (segment68 W x (by omega))
    have hone : ([AV.str (List.drop ((a : Int)).toNat (List.take ((i : Int)).toNat s))] : List AV).length = 1 := rfl
    have hxx : AV.str (List.drop ((a : Int)).toNat (List.take ((i : Int)).toNat s)) = AV.str x := by rw [Int.toNat_natCast, Int.toNat_natCast, hx]
    by_cases h16 : j = 16
    · exact .inr ⟨a, by rw [h5, scan_stop g1 (.inr h16)], body_of_sbodyK mixedz (b23_4 W s p a i j 0) Fb5_z5 [] [] Fb5_z1⟩
    cases e : segB x with
    | false =>
      have hsx : (!segB x) = true := by rw [e]; rfl
      exact .inr ⟨a, by rw [h5, scan_stop g1 (.inl e)], body_of_sbodyK mixedz (b23_5 W s p a i j 0 x) Fb5_z5 [] [] Fb5_z1⟩
    | true =>
      have hsx : (!segB x) = false := by rw [e]; rfl
      left
      have hj1 := g3 hil
      refine ⟨(i + 1, i + 1, j + 1), .inr ⟨by simp only; omega, hj1, ?_⟩, by simp only; omega, body_of_sbodyK mixedz (b23_6 W s p a i j 0 x) Fb5_z5 [(100000, 100002)] [] Fb5_z1⟩
      rw [h5, scan_step g1 (by rintro (h | h); (rw [e] at h; cases h); exact h16 h), hj1, List.drop_length]; rfl
theorem loop23 (hs : s.length ≤ 2 ^ 50) (hpl : p.length ≤ 2 ^ 50 + 1) (hn : scanV p 0 0 = none) : ∀ q, ScanI s p q → LoopC Tryz.prog W [] (nslots Tryz.prog 14) (loopOf Tryz.prog 14 0) (S23 s p q.2.1 q.1 q.2.2) (.exit 0) (E23 p) := by
  refine loopC_inv (fun q : Nat × Nat × Nat => S23 s p q.2.1 q.1 q.2.2) (ScanI s p) (fun q => s.length + 1 - q.1) (by simp) ?_
  rintro ⟨i, a, j⟩ h
  by_cases hi : i ≤ s.length
  · rcases step23 W s p hs hpl i a j h hi with ⟨q, h1, h2, h3⟩ | ⟨t, h1, _⟩
    · exact .inl ⟨q, h1, h2, h3⟩
    · rw [hn] at h1; cases h1
  · right
    rcases h with ⟨h1, _⟩ | ⟨h1, h2, _⟩
    · exact absurd h1 hi
    simp only at h1 h2
    subst h2
    exact body_of_sbodyK mixedz (b23_7 W s p a i p.length 0) Fb5_z5 [] [] Fb5_z1
theorem loopR23 (hs : s.length ≤ 2 ^ 50) (hpl : p.length ≤ 2 ^ 50 + 1) {t0 : Int} (hn : scanV p 0 0 = some t0) : ∀ q, ScanI s p q → LoopC Tryz.prog W [] (nslots Tryz.prog 14) (loopOf Tryz.prog 14 0) (S23 s p q.2.1 q.1 q.2.2) .ret (R76 t0) := by
  refine loopC_inv (fun q : Nat × Nat × Nat => S23 s p q.2.1 q.1 q.2.2) (ScanI s p) (fun q => s.length + 1 - q.1) (by simp) ?_
  rintro ⟨i, a, j⟩ h
  by_cases hi : i ≤ s.length
  · rcases step23 W s p hs hpl i a j h hi with ⟨q, h1, h2, h3⟩ | ⟨t, h1, h2⟩
    · exact .inl ⟨q, h1, h2, h3⟩
    · rw [hn] at h1
      obtain rfl : t0 = t := by simpa using h1
      exact .inr h2
  · exfalso
    rcases h with ⟨h1, _⟩ | ⟨_, _, h2⟩
    · exact hi h1
    · rw [hn] at h2; cases h2
theorem Parse23 (hs : s.length ≤ 2 ^ 50) : Pure Tryz.prog W 14 [.str s] (parseAV s) := by
  have hpl : (splitD 46 s).length ≤ 2 ^ 50 + 1 := by have := splitD_len 46 s; have := countByte_le s 46; omega
  have hI : ScanI s (splitD 46 s) (0, 0, 0) := .inl ⟨by simp, by simp, by simp, by intro k _ h; simp only at h; omega, by simp, by simp⟩
  cases hq : scanV (splitD 46 s) 0 0 with
  | none =>
    have hlp := loop23 W s _ hs hpl hq (0, 0, 0) hI
    have h := mut_of_sfun mixedz call23 rfl (p23_0 W s (splitD 46 s) 0) Fb5_z6
    exact pure_frz [(100000, .arr 9 1 ((splitD 46 s).map AV.str) .own)] h (by intro q hq; simp only [List.mem_singleton] at hq; subst hq; exact ⟨by simp [hg], by simp [Frzable, cloL_str]⟩) (by
      simp [parseAV, parseP, parseE, parseA, hq, clA, clL, lk, iA]; try exact List.take_of_length_le (by simp)) rfl
  | some t0 =>
    have hlp := loopR23 W s _ hs hpl hq (0, 0, 0) hI
    refine pure_leR ?_ (pure_of_mut (by rfl) (mut_of_sfun mixedz call23 rfl (q23_0 W s (splitD 46 s) t0) Fb5_z6))
    unfold parseAV parseP parseE parseA
    rw [hq]
    exact .tup (.cons (.nil 1) (.cons (.refl _) (.cons (.refl _) .nil)))
end
end Go.Ac

