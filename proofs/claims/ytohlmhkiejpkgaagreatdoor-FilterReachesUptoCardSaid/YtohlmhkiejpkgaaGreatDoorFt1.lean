/- What is proved: contracts of functions of this translation, walked; their plain meaning. No condition beyond those that each theorem names. -/
import Derived.Test.YtohlmhkiejpkgaaGreatDoorFb20
import Derived.Test.YtohlmhkiejpkgaaGreatDoorPt
import Derived.Test.YtohlmhkiejpkgaaGreatDoorFr3
set_option linter.all false
namespace Go.Ac
open Go Go.Proofs
set_option maxRecDepth 10000
set_option maxHeartbeats 2000000
def S29 (h : JH) (l : List JV) (acc : List (List UInt8)) (i : Nat) : AS := ⟨[(1, .gp 100000 0), (3, .gs 100001 0 acc.length), (4, iA i)], [(100000, .box (encV (.mk h l)) .own), (100001, .arr 9 1 (acc.map .str) .own)]⟩
def I29 (h : JH) (l : List JV) (acc : List (List UInt8)) (i k : Nat) : AS := ⟨[(1, .gp 100000 0), (3, .gs 100001 0 acc.length), (4, iA i), (5, iA k)], [(100000, .box (encV (.mk h l)) .own), (100001, .arr 9 1 (acc.map .str) .own)]⟩
def E29 (acc : List (List UInt8)) : AS := ⟨[(3, .gs 100001 0 acc.length)], [(100001, .arr 9 1 (acc.map .str) .own)]⟩
def S6 (q a b : JV) (ps : List (List UInt8)) (i : Nat) : AS := ⟨[(3, .gp 100000 0), (4, .gp 100001 0), (5, .gp 100002 0), (9, .sl 1 (ps.map .str) []), (10, iA i)], [(100000, .box (encV (.mk q.hd q.items)) .own), (100001, .box (encV (.mk a.hd a.items)) .own), (100002, .box (encV (.mk b.hd b.items)) .own)]⟩
def I6 (q a b : JV) (ps : List (List UInt8)) (i : Nat) (m n : List JV) (k : Nat) : AS := ⟨[(3, .gp 100000 0), (4, .gp 100001 0), (5, .gp 100002 0), (9, .sl 1 (ps.map .str) []), (10, iA i), (14, .sl 5 (encVs m) []), (15, .sl 5 (encVs n) []), (16, iA k)], [(100000, .box (encV (.mk q.hd q.items)) .own), (100001, .box (encV (.mk a.hd a.items)) .own), (100002, .box (encV (.mk b.hd b.items)) .own)]⟩
def R6 (c : Bool) : AS := ⟨[(6, bA c)], []⟩
theorem i29_0 (W : World) (h : JH) (l : List JV) (acc r : List (List UInt8)) (i k : Nat) (s : List UInt8) (h2 h3 : JH) (l2 l3 : List JV) : sQ W { lp := true, tl := [70, 29] } 29 1 [] [1, 3, 4, 5] (I29 h l acc i k) [aE 1, oS (.str s), ee, cR (bA true) [], aE 6, oS (eV h2 l2), aE 5, bt, aE 1, oS (eV h2 l2), aE 1, oS (eV h3 l3), ee, cR (sL 1 (List.map AV.str r)) [], aE 1, .lg, .lg, ee] = .ok ((.normal, { t := [(1, .gp 100000 0), (3, .gs 100002 0 (acc.length + (List.map AV.str r).length)), (4, iA (↑i : Int)), (5, iA (IntKind.i64.wrap ((↑k : Int) + 1)))], h := [(100000, gB (eV h l)), (100001, .dead), (100002, .arr 9 1 (List.take acc.length (List.map AV.str acc) ++ List.map AV.str r) .own)] }), [ee], [(acc.length + (List.map AV.str r).length) * 16 ≤ 140737488355328, (St.own = St.own ∨ St.own = St.shr ∧ acc.length = (List.map AV.str acc).length) ∧ acc.length ≤ (List.map AV.str acc).length, MZ W 29 [eV h3 l3] [] (.ret (sL 1 (List.map AV.str r)) []), (encVs l2)[(↑k : Int).toNat]? = some (eV h3 l3), (encVs l)[(↑i : Int).toNat]? = some (eV h2 l2), decide ((↑k : Int) < (↑(encVs l2).length : Int)) = true, (encVs l)[(↑i : Int).toNat]? = some (eV h2 l2), MZ W 70 [.str s] [] (.ret (bA true) []), (List.map AV.str h.names)[(↑i : Int).toNat]? = some (AV.str s)]) := by kernel_rfl
theorem i29_1 (W : World) (h : JH) (l : List JV) (acc : List (List UInt8)) (i k : Nat) (s : List UInt8) (h2 : JH) (l2 : List JV) : sQ W { lp := true, tl := [70, 29] } 29 1 [] [1, 3, 4, 5] (I29 h l acc i k) [aE 1, oS (.str s), ee, cR (bA true) [], aE 6, oS (eV h2 l2), aE 5, bf, ee] = .ok ((.exit 2, { t := [(1, .gp 100000 0), (3, .gs 100001 0 acc.length), (4, iA (↑i : Int)), (5, iA (↑k : Int))], h := [(100000, gB (eV h l)), (100001, .arr 9 1 (List.map AV.str acc) .own)] }), [ee], [decide ((↑k : Int) < (↑(encVs l2).length : Int)) = false, (encVs l)[(↑i : Int).toNat]? = some (eV h2 l2), MZ W 70 [.str s] [] (.ret (bA true) []), (List.map AV.str h.names)[(↑i : Int).toNat]? = some (AV.str s)]) := by kernel_rfl
theorem j29_0 (W : World) (h : JH) (l : List JV) (acc : List (List UInt8)) (i k : Nat) (s : List UInt8) : sQ W { lp := true, tl := [70, 29] } 29 1 [] [1, 3, 4, 5] (I29 h l acc i k) [aE 1, oS (.str s), ee, cR (bA false) [], ee] = .ok ((.exit 2, { t := [(1, .gp 100000 0), (3, .gs 100001 0 acc.length), (4, iA (↑i : Int)), (5, iA (↑k : Int))], h := [(100000, gB (eV h l)), (100001, .arr 9 1 (List.map AV.str acc) .own)] }), [aE 9999989], [MZ W 70 [.str s] [] (.ret (bA false) []), (List.map AV.str h.names)[(↑i : Int).toNat]? = some (AV.str s)]) := by kernel_rfl
theorem b29_0 (W : World) (h : JH) (l : List JV) (acc acc2 : List (List UInt8)) (i : Nat) (m : Int) (s : List UInt8) : sQ W { lp := true, tl := [65, 69] } 29 0 [] [1, 3, 4] (S29 h l acc i) [ee, cR (iA m) [], bt, aE 1, oS (.str s), ee, cR (bA false) [], aE 2, oS (.str s), aE 1, .lg, .lg, ee, .loopM [(100001, 100003)] [] (I29 h l (acc ++ [s]) i 0) (.exit 2) (S29 h l acc2 i), ee] = .ok ((.normal, { t := [(1, .gp 100000 0), (3, .gs 100001 0 acc2.length), (4, iA (IntKind.i64.wrap ((↑i : Int) + 1)))], h := [(100000, gB (eV h l)), (100001, .arr 9 1 (List.map AV.str acc2) .own)] }), [ee], [LZ W [] 29 1 (I29 h l (acc ++ [s]) i 0) (.exit 2) (S29 h l acc2 i), MatchK [] [(100001, 100003)] [] { t := [(1, .gp 100000 0), (3, .gs 100003 0 (acc.length + [AV.str s].length)), (4, iA (↑i : Int)), (5, iA 0)], h := [(100000, gB (eV h l)), (100001, .dead), (100002, .arr 9 1 [.str s] .own), (100003, .arr 9 1 (List.take acc.length (List.map AV.str acc) ++ [AV.str s]) .own)] } (I29 h l (acc ++ [s]) i 0), (acc.length + [AV.str s].length) * 16 ≤ 140737488355328, (St.own = St.own ∨ St.own = St.shr ∧ acc.length = (List.map AV.str acc).length) ∧ acc.length ≤ (List.map AV.str acc).length, (List.map AV.str h.names)[(↑i : Int).toNat]? = some (AV.str s), MZ W 69 [.str s] [] (.ret (bA false) []), (List.map AV.str h.names)[(↑i : Int).toNat]? = some (AV.str s), decide ((↑i : Int) < m) = true, MZ W 65 [eV h l] [] (.ret (iA m) [])]) := by kernel_rfl
theorem b29_1 (W : World) (h : JH) (l : List JV) (acc : List (List UInt8)) (i : Nat) (m : Int) : sQ W { lp := true, tl := [65, 69] } 29 0 [] [1, 3, 4] (S29 h l acc i) [ee, cR (iA m) [], bf, ee] = .ok ((.exit 0, { t := [(1, .gp 100000 0), (3, .gs 100001 0 acc.length), (4, iA (↑i : Int))], h := [(100000, gB (eV h l)), (100001, .arr 9 1 (List.map AV.str acc) .own)] }), [ee], [decide ((↑i : Int) < m) = false, MZ W 65 [eV h l] [] (.ret (iA m) [])]) := by kernel_rfl
theorem d29_0 (W : World) (h : JH) (l : List JV) (acc acc2 : List (List UInt8)) (i : Nat) (m : Int) (s : List UInt8) : sQ W { lp := true, tl := [65, 69] } 29 0 [] [1, 3, 4] (S29 h l acc i) [ee, cR (iA m) [], bt, aE 1, oS (.str s), ee, cR (bA true) [], ee, .loopM [] [] (I29 h l acc i 0) (.exit 2) (S29 h l acc2 i), ee] = .ok ((.normal, { t := [(1, .gp 100000 0), (3, .gs 100001 0 acc2.length), (4, iA (IntKind.i64.wrap ((↑i : Int) + 1)))], h := [(100000, gB (eV h l)), (100001, .arr 9 1 (List.map AV.str acc2) .own)] }), [ee], [LZ W [] 29 1 (I29 h l acc i 0) (.exit 2) (S29 h l acc2 i), MatchK [] [] [] { t := [(1, .gp 100000 0), (3, .gs 100001 0 acc.length), (4, iA (↑i : Int)), (5, iA 0)], h := [(100000, gB (eV h l)), (100001, .arr 9 1 (List.map AV.str acc) .own)] } (I29 h l acc i 0), MZ W 69 [.str s] [] (.ret (bA true) []), (List.map AV.str h.names)[(↑i : Int).toNat]? = some (AV.str s), decide ((↑i : Int) < m) = true, MZ W 65 [eV h l] [] (.ret (iA m) [])]) := by kernel_rfl
theorem p29_0 (W : World) (h : JH) (l : List JV) (acc : List (List UInt8)) : sF W { lp := true, fin := 9 } 29 [eV h l] [] 100000 [ee, .loopM [] [(100001, 1)] (S29 h l [] 0) (.exit 0) (E29 acc), ee, .fin [] [] (.gs 100001 0 acc.length) [(100001, .arr 9 1 (List.map AV.str acc) .own)], ee] [] = .ok (.ret (.gs 100001 0 acc.length) [(100001, .arr 9 1 (List.map AV.str acc) .own)], [ee], [MatchK [] [] [] { t := [(0, .gs 100001 0 acc.length)], h := [(100001, .arr 9 1 (List.map AV.str acc) .own)] } { t := [(0, .gs 100001 0 acc.length)], h := [(100001, .arr 9 1 (List.map AV.str acc) .own)] }, LZ W [] 29 0 (S29 h l [] 0) (.exit 0) (E29 acc), MatchK [] [] [(100001, 1)] { t := [(1, .gp 100000 0), (3, .val (Value.slice none 0 0)), (4, iA 0)], h := [(100000, gB (eV h l))] } (S29 h l [] 0)]) := by kernel_rfl
theorem i6_0 (W : World) (qq a b : JV) (ps : List (List UInt8)) (i k : Nat) (m n : List JV) (c d : Bool) (h2 h3 : JH) (l2 l3 : List JV) : sQ W { lp := true, tl := [67, 15] } 6 1 [] [3, 4, 5, 6, 9, 10, 14, 15, 16] (I6 qq a b ps i m n k) [bt, aE 1, oS (eV h2 l2), aE 1, oS (eV h3 l3), ee, cR (bA d) [], bt, ee, cR (bA c) [], ee] = .ok ((.ret, { t := [(3, .gp 100000 0), (4, .gp 100001 0), (5, .gp 100002 0), (6, bA c), (9, sL 1 (List.map AV.str ps)), (10, iA (↑i : Int)), (14, sL 5 (encVs m)), (15, sL 5 (encVs n)), (16, iA (↑k : Int))], h := [(100000, gB (eV qq.hd qq.items)), (100001, gB (eV a.hd a.items)), (100002, gB (eV b.hd b.items))] }), [ee], [MZ W 15 [] [] (.ret (bA c) []), (!d) = true, MZ W 67 [eV h2 l2, eV h3 l3] [] (.ret (bA d) []), (encVs n)[(↑k : Int).toNat]? = some (eV h3 l3), (encVs m)[(↑k : Int).toNat]? = some (eV h2 l2), decide ((↑k : Int) < (↑(encVs m).length : Int)) = true]) := by kernel_rfl
theorem i6_1 (W : World) (qq a b : JV) (ps : List (List UInt8)) (i k : Nat) (m n : List JV) (d : Bool) (h2 h3 : JH) (l2 l3 : List JV) : sQ W { lp := true, tl := [67, 15] } 6 1 [] [3, 4, 5, 6, 9, 10, 14, 15, 16] (I6 qq a b ps i m n k) [bt, aE 1, oS (eV h2 l2), aE 1, oS (eV h3 l3), ee, cR (bA d) [], bf, ee] = .ok ((.normal, { t := [(3, .gp 100000 0), (4, .gp 100001 0), (5, .gp 100002 0), (9, sL 1 (List.map AV.str ps)), (10, iA (↑i : Int)), (14, sL 5 (encVs m)), (15, sL 5 (encVs n)), (16, iA (IntKind.i64.wrap ((↑k : Int) + 1)))], h := [(100000, gB (eV qq.hd qq.items)), (100001, gB (eV a.hd a.items)), (100002, gB (eV b.hd b.items))] }), [ee], [(!d) = false, MZ W 67 [eV h2 l2, eV h3 l3] [] (.ret (bA d) []), (encVs n)[(↑k : Int).toNat]? = some (eV h3 l3), (encVs m)[(↑k : Int).toNat]? = some (eV h2 l2), decide ((↑k : Int) < (↑(encVs m).length : Int)) = true]) := by kernel_rfl
theorem i6_2 (W : World) (qq a b : JV) (ps : List (List UInt8)) (i k : Nat) (m n : List JV) : sQ W { lp := true, tl := [67, 15] } 6 1 [] [3, 4, 5, 6, 9, 10, 14, 15, 16] (I6 qq a b ps i m n k) [bf, ee] = .ok ((.exit 2, { t := [(3, .gp 100000 0), (4, .gp 100001 0), (5, .gp 100002 0), (9, sL 1 (List.map AV.str ps)), (10, iA (↑i : Int)), (14, sL 5 (encVs m)), (15, sL 5 (encVs n)), (16, iA (↑k : Int))], h := [(100000, gB (eV qq.hd qq.items)), (100001, gB (eV a.hd a.items)), (100002, gB (eV b.hd b.items))] }), [ee], [decide ((↑k : Int) < (↑(encVs m).length : Int)) = false]) := by kernel_rfl
theorem b6_0 (W : World) (qq a b : JV) (ps : List (List UInt8)) (i : Nat) (s : List UInt8) (P : List AV) (t : Int) (m n : List JV) (c : Bool) : sQ W { lp := true, tl := [23, 30, 15] } 6 0 [] [3, 4, 5, 6, 9, 10] (S6 qq a b ps i) [bt, aE 1, oS (.str s), ee, cR (.tup [sL 1 P, iA 0, iA t]) [], ee, cR (sL 5 (encVs m)) [], ee, cR (sL 5 (encVs n)) [], bt, ee, cR (bA c) [], ee] = .ok ((.ret, { t := [(3, .gp 100000 0), (4, .gp 100001 0), (5, .gp 100002 0), (6, bA c), (9, sL 1 (List.map AV.str ps)), (10, iA (↑i : Int))], h := [(100000, gB (eV qq.hd qq.items)), (100001, gB (eV a.hd a.items)), (100002, gB (eV b.hd b.items))] }), [ee], [MZ W 15 [] [] (.ret (bA c) []), (!decide ((↑(encVs m).length : Int) = (↑(encVs n).length : Int))) = true, MZ W 30 [.agg [iA b.hd.kind, iA b.hd.int, .str b.hd.3, sL 1 (List.map AV.str b.hd.names), sL 5 (encVs b.items)], sL 1 P] [] (.ret (sL 5 (encVs n)) []), MZ W 30 [.agg [iA a.hd.kind, iA a.hd.int, .str a.hd.3, sL 1 (List.map AV.str a.hd.names), sL 5 (encVs a.items)], sL 1 P] [] (.ret (sL 5 (encVs m)) []), MZ W 23 [.str s] [] (.ret (.tup [sL 1 P, iA 0, iA t]) []), (List.map AV.str ps)[(↑i : Int).toNat]? = some (AV.str s), decide ((↑i : Int) < (↑(List.map AV.str ps).length : Int)) = true]) := by kernel_rfl
theorem b6_1 (W : World) (qq a b : JV) (ps : List (List UInt8)) (i : Nat) (s : List UInt8) (P : List AV) (t : Int) (m n : List JV) : sQ W { lp := true, tl := [23, 30, 15] } 6 0 [] [3, 4, 5, 6, 9, 10] (S6 qq a b ps i) [bt, aE 1, oS (.str s), ee, cR (.tup [sL 1 P, iA 0, iA t]) [], ee, cR (sL 5 (encVs m)) [], ee, cR (sL 5 (encVs n)) [], bf, ee, .loopM [] [] (I6 qq a b ps i m n 0) (.exit 2) (S6 qq a b ps i), ee] = .ok ((.normal, { t := [(3, .gp 100000 0), (4, .gp 100001 0), (5, .gp 100002 0), (9, sL 1 (List.map AV.str ps)), (10, iA (IntKind.i64.wrap ((↑i : Int) + 1)))], h := [(100000, gB (eV qq.hd qq.items)), (100001, gB (eV a.hd a.items)), (100002, gB (eV b.hd b.items))] }), [ee], [LZ W [] 6 1 (I6 qq a b ps i m n 0) (.exit 2) (S6 qq a b ps i), MatchK [] [] [] { t := [(3, .gp 100000 0), (4, .gp 100001 0), (5, .gp 100002 0), (9, sL 1 (List.map AV.str ps)), (10, iA (↑i : Int)), (14, sL 5 (encVs m)), (15, sL 5 (encVs n)), (16, iA 0)], h := [(100000, gB (eV qq.hd qq.items)), (100001, gB (eV a.hd a.items)), (100002, gB (eV b.hd b.items))] } (I6 qq a b ps i m n 0), (!decide ((↑(encVs m).length : Int) = (↑(encVs n).length : Int))) = false, MZ W 30 [.agg [iA b.hd.kind, iA b.hd.int, .str b.hd.3, sL 1 (List.map AV.str b.hd.names), sL 5 (encVs b.items)], sL 1 P] [] (.ret (sL 5 (encVs n)) []), MZ W 30 [.agg [iA a.hd.kind, iA a.hd.int, .str a.hd.3, sL 1 (List.map AV.str a.hd.names), sL 5 (encVs a.items)], sL 1 P] [] (.ret (sL 5 (encVs m)) []), MZ W 23 [.str s] [] (.ret (.tup [sL 1 P, iA 0, iA t]) []), (List.map AV.str ps)[(↑i : Int).toNat]? = some (AV.str s), decide ((↑i : Int) < (↑(List.map AV.str ps).length : Int)) = true]) := by kernel_rfl
theorem b6_2 (W : World) (qq a b : JV) (ps : List (List UInt8)) (i : Nat) : sQ W { lp := true, tl := [23, 30, 15] } 6 0 [] [3, 4, 5, 6, 9, 10] (S6 qq a b ps i) [bf, ee] = .ok ((.exit 0, { t := [(3, .gp 100000 0), (4, .gp 100001 0), (5, .gp 100002 0), (9, sL 1 (List.map AV.str ps)), (10, iA (↑i : Int))], h := [(100000, gB (eV qq.hd qq.items)), (100001, gB (eV a.hd a.items)), (100002, gB (eV b.hd b.items))] }), [ee], [decide ((↑i : Int) < (↑(List.map AV.str ps).length : Int)) = false]) := by kernel_rfl
theorem c6_1 (W : World) (qq a b : JV) (ps : List (List UInt8)) (i : Nat) (s : List UInt8) (P : List AV) (t : Int) (m n : List JV) (c : Bool) : sQ W { lp := true, tl := [23, 30, 15] } 6 0 [] [3, 4, 5, 6, 9, 10] (S6 qq a b ps i) [bt, aE 1, oS (.str s), ee, cR (.tup [sL 1 P, iA 0, iA t]) [], ee, cR (sL 5 (encVs m)) [], ee, cR (sL 5 (encVs n)) [], bf, ee, .loopM [] [] (I6 qq a b ps i m n 0) .ret (R6 c), ee] = .ok ((.ret, { t := [(6, bA c)], h := [] }), [ee], [LZ W [] 6 1 (I6 qq a b ps i m n 0) .ret (R6 c), MatchK [] [] [] { t := [(3, .gp 100000 0), (4, .gp 100001 0), (5, .gp 100002 0), (9, sL 1 (List.map AV.str ps)), (10, iA (↑i : Int)), (14, sL 5 (encVs m)), (15, sL 5 (encVs n)), (16, iA 0)], h := [(100000, gB (eV qq.hd qq.items)), (100001, gB (eV a.hd a.items)), (100002, gB (eV b.hd b.items))] } (I6 qq a b ps i m n 0), (!decide ((↑(encVs m).length : Int) = (↑(encVs n).length : Int))) = false, MZ W 30 [.agg [iA b.hd.kind, iA b.hd.int, .str b.hd.3, sL 1 (List.map AV.str b.hd.names), sL 5 (encVs b.items)], sL 1 P] [] (.ret (sL 5 (encVs n)) []), MZ W 30 [.agg [iA a.hd.kind, iA a.hd.int, .str a.hd.3, sL 1 (List.map AV.str a.hd.names), sL 5 (encVs a.items)], sL 1 P] [] (.ret (sL 5 (encVs m)) []), MZ W 23 [.str s] [] (.ret (.tup [sL 1 P, iA 0, iA t]) []), (List.map AV.str ps)[(↑i : Int).toNat]? = some (AV.str s), decide ((↑i : Int) < (↑(List.map AV.str ps).length : Int)) = true]) := by kernel_rfl
theorem p6_0 (W : World) (qq a b : JV) (w c : Bool) : sF W { lp := true, tl := [14, 15, 16, 29, 27] } 6 [eV qq.hd qq.items, eV a.hd a.items, eV b.hd b.items] [] 100000 [ee, cR (bA w) [(100003, .arr 25 5 [eV qq.hd qq.items, eV a.hd a.items, eV b.hd b.items] .own)], bt, ee, cR (bA c) [], ee] [] = .ok (.ret (bA c) [], [ee], [MZ W 15 [] [] (.ret (bA c) []), w = true, MZ W 14 [.gs 100003 0 3] [(100003, .arr 25 5 [.agg [iA qq.hd.kind, iA qq.hd.int, .str qq.hd.3, sL 1 (List.map AV.str qq.hd.names), sL 5 (encVs qq.items)], .agg [iA a.hd.kind, iA a.hd.int, .str a.hd.3, sL 1 (List.map AV.str a.hd.names), sL 5 (encVs a.items)], .agg [iA b.hd.kind, iA b.hd.int, .str b.hd.3, sL 1 (List.map AV.str b.hd.names), sL 5 (encVs b.items)]] .own)] (.ret (bA w) [(100003, .arr 25 5 [eV qq.hd qq.items, eV a.hd a.items, eV b.hd b.items] .own)])]) := by kernel_rfl
theorem p6_1 (W : World) (qq a b : JV) (e : Int) (w c : Bool) : sF W { lp := true, tl := [14, 15, 16, 29, 27] } 6 [eV qq.hd qq.items, eV a.hd a.items, eV b.hd b.items] [] 100000 [ee, cR (bA w) [(100003, .arr 25 5 [eV qq.hd qq.items, eV a.hd a.items, eV b.hd b.items] .own)], bf, ee, cR (.tup [iA e, .top]) [], bt, ee, cR (bA c) [], ee] [] = .ok (.ret (bA c) [], [ee], [MZ W 15 [] [] (.ret (bA c) []), (!decide (e = 0)) = true, MZ W 16 [.agg [iA qq.hd.kind, iA qq.hd.int, .str qq.hd.3, sL 1 (List.map AV.str qq.hd.names), sL 5 (encVs qq.items)]] [] (.ret (.tup [iA e, .top]) []), w = false, MZ W 14 [.gs 100003 0 3] [(100003, .arr 25 5 [.agg [iA qq.hd.kind, iA qq.hd.int, .str qq.hd.3, sL 1 (List.map AV.str qq.hd.names), sL 5 (encVs qq.items)], .agg [iA a.hd.kind, iA a.hd.int, .str a.hd.3, sL 1 (List.map AV.str a.hd.names), sL 5 (encVs a.items)], .agg [iA b.hd.kind, iA b.hd.int, .str b.hd.3, sL 1 (List.map AV.str b.hd.names), sL 5 (encVs b.items)]] .own)] (.ret (bA w) [(100003, .arr 25 5 [eV qq.hd qq.items, eV a.hd a.items, eV b.hd b.items] .own)])]) := by kernel_rfl
theorem p6_2 (W : World) (qq a b : JV) (ps : List (List UInt8)) (e : Int) (w c d : Bool) : sF W { lp := true, tl := [14, 15, 16, 29, 27] } 6 [eV qq.hd qq.items, eV a.hd a.items, eV b.hd b.items] [] 100000 [ee, cR (bA w) [(100003, .arr 25 5 [eV qq.hd qq.items, eV a.hd a.items, eV b.hd b.items] .own)], bf, ee, cR (.tup [iA e, .top]) [], bf, ee, cR (sL 1 (List.map AV.str ps)) [], ee, .loopM [] [] (S6 qq a b ps 0) (.exit 0) (S6 qq a b ps ps.length), ee, cR (.tup [bA d, bA true]) [], ee, cR (.tup [bA d, bA true]) [], aE 6, bt, ee, cR (bA c) [], bt, ee] [] = .ok (.ret (bA c) [], [ee], [(d == d) = true, MZ W 15 [] [] (.ret (bA c) []), (d == d) = true, MZ W 27 [.agg [iA qq.hd.kind, iA qq.hd.int, .str qq.hd.3, sL 1 (List.map AV.str qq.hd.names), sL 5 (encVs qq.items)], .agg [iA b.hd.kind, iA b.hd.int, .str b.hd.3, sL 1 (List.map AV.str b.hd.names), sL 5 (encVs b.items)]] [] (.ret (.tup [bA d, bA true]) []), MZ W 27 [.agg [iA qq.hd.kind, iA qq.hd.int, .str qq.hd.3, sL 1 (List.map AV.str qq.hd.names), sL 5 (encVs qq.items)], .agg [iA a.hd.kind, iA a.hd.int, .str a.hd.3, sL 1 (List.map AV.str a.hd.names), sL 5 (encVs a.items)]] [] (.ret (.tup [bA d, bA true]) []), LZ W [] 6 0 (S6 qq a b ps 0) (.exit 0) (S6 qq a b ps ps.length), MatchK [] [] [] { t := [(3, .gp 100000 0), (4, .gp 100001 0), (5, .gp 100002 0), (9, sL 1 (List.map AV.str ps)), (10, iA 0)], h := [(100000, gB (.agg [iA qq.hd.kind, iA qq.hd.int, .str qq.hd.3, sL 1 (List.map AV.str qq.hd.names), sL 5 (encVs qq.items)])), (100001, gB (.agg [iA a.hd.kind, iA a.hd.int, .str a.hd.3, sL 1 (List.map AV.str a.hd.names), sL 5 (encVs a.items)])), (100002, gB (.agg [iA b.hd.kind, iA b.hd.int, .str b.hd.3, sL 1 (List.map AV.str b.hd.names), sL 5 (encVs b.items)])), (100003, .arr 25 5 [eV qq.hd qq.items, eV a.hd a.items, eV b.hd b.items] .own)] } (S6 qq a b ps 0), MZ W 29 [.agg [iA qq.hd.kind, iA qq.hd.int, .str qq.hd.3, sL 1 (List.map AV.str qq.hd.names), sL 5 (encVs qq.items)]] [] (.ret (sL 1 (List.map AV.str ps)) []), (!decide (e = 0)) = false, MZ W 16 [.agg [iA qq.hd.kind, iA qq.hd.int, .str qq.hd.3, sL 1 (List.map AV.str qq.hd.names), sL 5 (encVs qq.items)]] [] (.ret (.tup [iA e, .top]) []), w = false, MZ W 14 [.gs 100003 0 3] [(100003, .arr 25 5 [.agg [iA qq.hd.kind, iA qq.hd.int, .str qq.hd.3, sL 1 (List.map AV.str qq.hd.names), sL 5 (encVs qq.items)], .agg [iA a.hd.kind, iA a.hd.int, .str a.hd.3, sL 1 (List.map AV.str a.hd.names), sL 5 (encVs a.items)], .agg [iA b.hd.kind, iA b.hd.int, .str b.hd.3, sL 1 (List.map AV.str b.hd.names), sL 5 (encVs b.items)]] .own)] (.ret (bA w) [(100003, .arr 25 5 [eV qq.hd qq.items, eV a.hd a.items, eV b.hd b.items] .own)])]) := by kernel_rfl
theorem r6_2 (W : World) (qq a b : JV) (ps : List (List UInt8)) (e : Int) (w c : Bool) : sF W { lp := true, tl := [14, 15, 16, 29, 27] } 6 [eV qq.hd qq.items, eV a.hd a.items, eV b.hd b.items] [] 100000 [ee, cR (bA w) [(100003, .arr 25 5 [eV qq.hd qq.items, eV a.hd a.items, eV b.hd b.items] .own)], bf, ee, cR (.tup [iA e, .top]) [], bf, ee, cR (sL 1 (List.map AV.str ps)) [], ee, .loopM [] [] (S6 qq a b ps 0) .ret (R6 c), ee] [] = .ok (.ret (bA c) [], [ee], [LZ W [] 6 0 (S6 qq a b ps 0) .ret (R6 c), MatchK [] [] [] { t := [(3, .gp 100000 0), (4, .gp 100001 0), (5, .gp 100002 0), (9, sL 1 (List.map AV.str ps)), (10, iA 0)], h := [(100000, gB (.agg [iA qq.hd.kind, iA qq.hd.int, .str qq.hd.3, sL 1 (List.map AV.str qq.hd.names), sL 5 (encVs qq.items)])), (100001, gB (.agg [iA a.hd.kind, iA a.hd.int, .str a.hd.3, sL 1 (List.map AV.str a.hd.names), sL 5 (encVs a.items)])), (100002, gB (.agg [iA b.hd.kind, iA b.hd.int, .str b.hd.3, sL 1 (List.map AV.str b.hd.names), sL 5 (encVs b.items)])), (100003, .arr 25 5 [eV qq.hd qq.items, eV a.hd a.items, eV b.hd b.items] .own)] } (S6 qq a b ps 0), MZ W 29 [.agg [iA qq.hd.kind, iA qq.hd.int, .str qq.hd.3, sL 1 (List.map AV.str qq.hd.names), sL 5 (encVs qq.items)]] [] (.ret (sL 1 (List.map AV.str ps)) []), (!decide (e = 0)) = false, MZ W 16 [.agg [iA qq.hd.kind, iA qq.hd.int, .str qq.hd.3, sL 1 (List.map AV.str qq.hd.names), sL 5 (encVs qq.items)]] [] (.ret (.tup [iA e, .top]) []), w = false, MZ W 14 [.gs 100003 0 3] [(100003, .arr 25 5 [.agg [iA qq.hd.kind, iA qq.hd.int, .str qq.hd.3, sL 1 (List.map AV.str qq.hd.names), sL 5 (encVs qq.items)], .agg [iA a.hd.kind, iA a.hd.int, .str a.hd.3, sL 1 (List.map AV.str a.hd.names), sL 5 (encVs a.items)], .agg [iA b.hd.kind, iA b.hd.int, .str b.hd.3, sL 1 (List.map AV.str b.hd.names), sL 5 (encVs b.items)]] .own)] (.ret (bA w) [(100003, .arr 25 5 [eV qq.hd qq.items, eV a.hd a.items, eV b.hd b.items] .own)])]) := by kernel_rfl
theorem Ft1_z1 {kp f ph σ σ'} (h : MatchK kp f ph σ σ' := by exact ⟨by rfl, (by simp only [S29, I29, E29, S6, I6, R6, tOK, List.map_cons, List.map_nil, and_true] <;> exact zt), (by simp only [S29, I29, E29, S6, I6, R6, hOK, List.map_cons, List.map_nil, and_true] <;> exact zh), (by simp only [S29, I29, E29, S6, I6, R6, liveT, List.map_cons, List.map_nil, and_true] <;> exact zv), (by simp only [S29, I29, E29, S6, I6, R6, liveH, List.map_cons, List.map_nil, and_true] <;> exact zv)⟩) : MatchK kp f ph σ σ' := h
theorem Ft1_z2 {cs} (h : Holds cs := by simp only [Holds, and_true] <;> and_intros <;> first | assumption | exact zd | exact Ft1_z1) : Holds cs := h
theorem call29 : callable Tryz.prog 29 = true := by kernel_rfl
theorem call6 : callable Tryz.prog 6 = true := by kernel_rfl
theorem pushR (acc r : List (List UInt8)) : List.take acc.length (List.map AV.str acc) ++ List.map AV.str r = List.map AV.str (acc ++ r) := by
  rw [List.take_of_length_le (by simp), List.map_append]
section
variable (W : World)
theorem loopI29 (h : JH) (l : List JV) (i : Nat) (s : List UInt8) (v : JV) (F : JV → List (List UInt8)) (acc : List (List UInt8)) (hs : h.names[i]? = some s) (hv : l[i]? = some v) (hj : joinsB s = true) (hln : v.items.length ≤ 2 ^ 30)
    (hb : (acc ++ v.items.flatMap F).length ≤ 2 ^ 31) (ih : ∀ y ∈ v.items, Pure Tryz.prog W 29 [encV y] (.sl 1 ((F y).map AV.str) [])) : ∀ (j k : Nat), v.items.length - k = j → k ≤ v.items.length →
    LoopC Tryz.prog W [] (nslots Tryz.prog 29) (loopOf Tryz.prog 29 1) (I29 h l (acc ++ (v.items.take k).flatMap F) i k) (.exit 2) (S29 h l (acc ++ v.items.flatMap F) i) := by
  intro j
  have hc1 := mut_of_pure (by rfl) (joins70 W s)
  rw [hj] at hc1
  have hget : (List.map AV.str h.names)[((i : Int)).toNat]? = some (.str s) := by rw [Int.toNat_natCast]; exact strs_get hs
  have hget2 : (encVs l)[((i : Int)).toNat]? = some (encV v) := by rw [Int.toNat_natCast]; exact encVs_get hv
  induction j with
  | zero =>
    intro k hk hle
    have e : k = v.items.length := by omega
    subst e
    rw [List.take_length]
    obtain ⟨h2, l2⟩ := v
    have hdc : decide (((JV.mk h2 l2).items.length : Int) < ((encVs l2).length : Int)) = false := by
      rw [encVs_len]; exact decide_eq_false (by show ¬ ((l2.length : Int) < (l2.length : Int)); omega)
    exact loop_last (by simp) (body_of_sbodyK mixedz (i29_1 W h l _ i _ s h2 l2) Ft1_z2 [] [] Ft1_z1)
  | succ j ihj =>
    intro k hk hle
    obtain ⟨y, hy⟩ := getOf (l := v.items) (i := k) (by omega)
    have hws : IntKind.i64.wrap ((k : Int) + 1) = ((k + 1 : Nat) : Int) := wrap_succ (by omega)
    have hnx := ihj (k + 1) (by omega) (by omega)
    have hst : acc ++ (v.items.take (k + 1)).flatMap F = (acc ++ (v.items.take k).flatMap F) ++ F y := by rw [take_snoc hy, List.flatMap_append, List.append_assoc]; simp
    have hbl : (acc ++ (v.items.take (k + 1)).flatMap F).length ≤ 2 ^ 31 := by
      have := flat_take F v.items (k + 1)
      simp only [List.length_append] at hb ⊢; omega
    rw [hst] at hnx hbl
    have hc2 := mut_of_pure (by simp only [cloL, encV_clo, Bool.and_self]) (ih y (List.mem_of_getElem? hy))
    have hkl : k < v.items.length := by omega
    generalize acc ++ (v.items.take k).flatMap F = a0 at hnx hbl ⊢
    generalize F y = r at hnx hbl hc2
    have hgl : a0.length + (List.map AV.str r).length = (a0 ++ r).length := by rw [List.length_append, List.length_map]
    have hset := pushR a0 r
    have hb2 : a0.length + r.length ≤ 2 ^ 31 := by simpa using hbl
    obtain ⟨h2, l2⟩ := v
    obtain ⟨h3, l3⟩ := y
    have hget3 : (encVs l2)[((k : Int)).toNat]? = some (encV (.mk h3 l3)) := by rw [Int.toNat_natCast]; exact encVs_get hy
    simp only [JV.items] at hkl hln
    exact loop_next (body_of_sbodyK mixedz (i29_0 W h l a0 r i k s h2 h3 l2 l3) Ft1_z2 [(100001, 100002)] [] Ft1_z1) hnx
theorem exitI29 (h : JH) (l : List JV) (i : Nat) (s : List UInt8) (acc : List (List UInt8)) (hs : h.names[i]? = some s) (hj : joinsB s = false) :
    LoopC Tryz.prog W [] (nslots Tryz.prog 29) (loopOf Tryz.prog 29 1) (I29 h l acc i 0) (.exit 2) (S29 h l acc i) := by
  have hc1 := mut_of_pure (by rfl) (joins70 W s)
  rw [hj] at hc1
  have hget : (List.map AV.str h.names)[((i : Int)).toNat]? = some (.str s) := by rw [Int.toNat_natCast]; exact strs_get hs
  exact loop_last (by simp) (body_of_sbodyK mixedz (j29_0 W h l acc i 0 s) Ft1_z2 [] [] Ft1_z1)
theorem loop29 (n : Nat) (h : JH) (l : List JV) (hcn : cntV (.mk h l) ≤ 2 ^ 30) (ih : ∀ v ∈ l, ∀ y ∈ v.items, Pure Tryz.prog W 29 [encV y] (.sl 1 ((pathsF n y).map AV.str) [])) : ∀ (j i : Nat), (JV.mk h l).mem - i = j → i ≤ (JV.mk h l).mem →
    LoopC Tryz.prog W [] (nslots Tryz.prog 29) (loopOf Tryz.prog 29 0) (S29 h l (((JV.mk h l).mems.take i).flatMap (pathG n)) i) (.exit 0) (E29 (pathsF (n + 1) (.mk h l))) := by
  intro j
  have hc1 := mut_of_pure (by simp only [cloL, encV_clo, Bool.and_self]) (members65 W (.mk h l))
  have hml := (JV.mk h l).mems_len
  have hm1 := (JV.mk h l).mem_names
  have hm2 := (JV.mk h l).mem_items
  have hcl := cntV_len (.mk h l)
  have hpl := paths_len (n + 1) (.mk h l)
  rw [pathsF_eq] at hpl ⊢
  have hbd : ∀ i, (((JV.mk h l).mems.take i).flatMap (pathG n)).length ≤ 2 ^ 30 := fun i => by have := flat_take (pathG n) (JV.mk h l).mems i; omega
  simp only [JV.names, JV.items, JV.hd] at hm1 hm2 hcl
  generalize hm : (JV.mk h l).mem = m at hc1 hml hm1 hm2 ⊢
  induction j with
  | zero =>
    intro i hk hle
    have e : i = m := by omega
    subst e
    rw [← hml, List.take_length, hml]
    exact loop_last (by simp) (body_of_sbodyK mixedz (b29_1 W h l _ i i) Ft1_z2 [] [] Ft1_z1)
  | succ j ihj =>
    intro i hk hle
    obtain ⟨s, hs⟩ := getOf (l := h.names) (i := i) (by omega)
    obtain ⟨v, hv⟩ := getOf (l := l) (i := i) (by omega)
    have hmg : (JV.mk h l).mems[i]? = some (s, v) := mems_get (q := .mk h l) hs hv
    have hws : IntKind.i64.wrap ((i : Int) + 1) = ((i + 1 : Nat) : Int) := wrap_succ (by omega)
    have hnx := ihj (i + 1) (by omega) (by omega)
    have hst : ((JV.mk h l).mems.take (i + 1)).flatMap (pathG n) = ((JV.mk h l).mems.take i).flatMap (pathG n) ++ pathG n (s, v) := by rw [take_snoc hmg, List.flatMap_append]; simp
    have hbl := hbd (i + 1)
    have hb0 := hbd i
    rw [hst] at hnx hbl
    have hget : (List.map AV.str h.names)[((i : Int)).toNat]? = some (.str s) := by rw [Int.toNat_natCast]; exact strs_get hs
    have hc2 := mut_of_pure (by rfl) (dollar69 W s)
    have hvm := List.mem_of_getElem? hv
    have hcv : cntV v ≤ cntVs l := cntVs_get hv
    have hcl2 : cntVs l ≤ 2 ^ 30 := by rw [cntV_eq] at hcn; simp only [JV.items] at hcn; omega
    have hvl := cntV_len v
    generalize ((JV.mk h l).mems.take i).flatMap (pathG n) = a0 at hnx hbl hb0 ⊢
    cases hd : dollarB s with
    | false =>
      have hj : joinsB s = false := by cases e : joinsB s with
        | false => rfl
        | true => have := joins_dollar e; rw [hd] at this; cases this
      have eG : pathG n (s, v) = [s] := by unfold pathG; simp [hd, hj]
      rw [eG] at hnx hbl
      rw [hd] at hc2
      have hlp := exitI29 W h l i s (a0 ++ [s]) hs hj
      exact loop_next (body_of_sbodyK mixedz (b29_0 W h l a0 (a0 ++ [s]) i m s) Ft1_z2 [] [] Ft1_z1) hnx
    | true =>
      rw [hd] at hc2
      cases hj : joinsB s with
      | false =>
        have eG : pathG n (s, v) = [] := by unfold pathG; simp [hd, hj]
        rw [eG, List.append_nil] at hnx hbl
        have hlp := exitI29 W h l i s a0 hs hj
        exact loop_next (body_of_sbodyK mixedz (d29_0 W h l a0 a0 i m s) Ft1_z2 [] [] Ft1_z1) hnx
      | true =>
        have eG : pathG n (s, v) = v.items.flatMap (pathsF n) := by unfold pathG; simp [hd, hj]
        rw [eG] at hnx hbl
        have hlp := loopI29 W h l i s v (pathsF n) a0 hs hv hj (by omega) (by omega) (ih v hvm) v.items.length 0 (by omega) (by omega)
        rw [List.take_zero, List.flatMap_nil, List.append_nil] at hlp
        exact loop_next (body_of_sbodyK mixedz (d29_0 W h l a0 (a0 ++ v.items.flatMap (pathsF n)) i m s) Ft1_z2 [] [] Ft1_z1) hnx
theorem paths29 : ∀ (n : Nat) (q : JV), sizeV q < n → cntV q ≤ 2 ^ 30 → Pure Tryz.prog W 29 [encV q] (.sl 1 ((pathsF n q).map AV.str) [])
  | 0, q, h, _ => by omega
  | n + 1, .mk h l, hn, hcn => by
    have hlp := loop29 W n h l hcn (fun v hv y hy => by
      obtain ⟨i, hi⟩ := List.getElem?_of_mem hv
      obtain ⟨k, hk⟩ := List.getElem?_of_mem hy
      have h1 := sizeV_item (v := .mk h l) hi
      have h2 := sizeV_item (v := v) hk
      have h3 := cntV_item (v := .mk h l) hi
      have h4 := cntV_item (v := v) hk
      exact paths29 n y (by omega) (by omega)) _ 0 rfl (Nat.zero_le _)
    rw [List.take_zero, List.flatMap_nil] at hlp
    exact pure_frz1 (mut_of_sfun mixedz call29 rfl (p29_0 W h l (pathsF (n + 1) (.mk h l))) Ft1_z2) (by rw [List.length_map]) (cloL_str _)
end
end Go.Ac

