/- What is proved: contracts of functions of this translation, walked; their plain meaning. No condition beyond those that each theorem names. -/
import Derived.Test.YtdalodgajiodhaaGreatDoorIs2
import Derived.Test.YtdalodgajiodhaaGreatDoorSo4
import Derived.Test.YtdalodgajiodhaaGreatDoorSd8
import Derived.Test.YtdalodgajiodhaaGreatDoorILw7
import Derived.Test.YtdalodgajiodhaaGreatDoorIHFr3
import Derived.Test.YtdalodgajiodhaaGreatDoorIHFr1
import Derived.Lib.Bytealg
set_option linter.all false
namespace Go.Ac
open Go Go.Proofs
set_option maxRecDepth 10000
set_option maxHeartbeats 1000000
def nilP : AV := .val (.pointer none)
def nilS : AV := .val (.slice none 0 0)
def S17 (A B : List Doc) (i : Nat) : AS := ⟨[(0, .sl 7 (docsA A) []), (1, .sl 7 (docsA B) []), (5, iA i)], []⟩
def E17 : AS := ⟨[], []⟩
def S8 (D : List Doc) (n : Int) (i : Nat) : AS := ⟨[(0, .sl 7 (docsA D) []), (3, iA n), (4, iA i)], []⟩
def E8 (D : List Doc) (n : Int) : AS := ⟨[(0, .sl 7 (docsA D) []), (3, iA n)], []⟩
def S16 (M L : List Doc) : AS := ⟨[(0, nilS), (5, .gs 100000 0 M.length), (6, .gs 100001 0 L.length)], [(100000, .arr 40 7 (docsA M) .own), (100001, .arr 40 7 (docsA L) .own)]⟩
def T16 (M L : List Doc) (at_ i : Nat) : AS := ⟨[(0, nilS), (5, .gs 100000 0 M.length), (6, .gs 100001 0 L.length), (7, iA at_), (8, iA i)], [(100000, .arr 40 7 (docsA M) .own), (100001, .arr 40 7 (docsA L) .own)]⟩
def U16 (M L : List Doc) (at_ : Nat) : AS := ⟨[(0, nilS), (5, .gs 100000 0 M.length), (6, .gs 100001 0 L.length), (7, iA at_)], [(100000, .arr 40 7 (docsA M) .own), (100001, .arr 40 7 (docsA L) .own)]⟩
def E16 (M : List Doc) : AS := ⟨[(5, .gs 100000 0 M.length)], [(100000, .arr 40 7 (docsA M) .own)]⟩
theorem p13_0 (W : World) (x y : Doc) : sF W { lp := true, ol := true, tl := [] } 13 [nilP, docA x, docA y] [] 100000 [ee] [] = .ok (.ret (iA (cmpB x.id y.id)) [], [aE 9999997], []) := by
  obtain ⟨ix, vx, ⟨hx, lx⟩⟩ := x; obtain ⟨iy, vy, ⟨hy, ly⟩⟩ := y; (show _ = _; kernel_rfl)
theorem p14_0 (W : World) (x y : Doc) : sF W { lp := true, ol := true, tl := [] } 14 [nilS, docA x, docA y] [] 100000 [ee, .un, aE 1, bt, ee] [] = .ok (.ret (iA (-1)) [], [ee], [Op.bytesLess x.id y.id = true]) := by
  obtain ⟨ix, vx, ⟨hx, lx⟩⟩ := x; obtain ⟨iy, vy, ⟨hy, ly⟩⟩ := y; (show _ = _; kernel_rfl)
theorem p14_1 (W : World) (x y : Doc) : sF W { lp := true, ol := true, tl := [] } 14 [nilS, docA x, docA y] [] 100000 [ee, .un, aE 1, bf, bt, ee] [] = .ok (.ret (iA 1) [], [ee], [(!(Op.bytesLess x.id y.id || decide (x.id = y.id))) = true, Op.bytesLess x.id y.id = false]) := by
  obtain ⟨ix, vx, ⟨hx, lx⟩⟩ := x; obtain ⟨iy, vy, ⟨hy, ly⟩⟩ := y; (show _ = _; kernel_rfl)
theorem p14_2 (W : World) (x y : Doc) : sF W { lp := true, ol := true, tl := [] } 14 [nilS, docA x, docA y] [] 100000 [ee, .un, aE 1, bf, bf, ee] [] = .ok (.ret (iA 0) [], [ee], [(!(Op.bytesLess x.id y.id || decide (x.id = y.id))) = false, Op.bytesLess x.id y.id = false]) := by
  obtain ⟨ix, vx, ⟨hx, lx⟩⟩ := x; obtain ⟨iy, vy, ⟨hy, ly⟩⟩ := y; (show _ = _; kernel_rfl)
theorem p41_0 (W : World) (bb : Bool) (x y : Doc) : sF W { lp := true, ol := true, tl := [42] } 41 [docA x, docA y] [] 100000 [bt, bt, bt, bt, bt, bt, bt, bt, bt, bt, bt, ee, .lg, ee, cR (bA bb) [], bt, ee] [] = .ok (.ret (bA bb) [], [ee], (decide (x.ver = y.ver) = true) :: MZ W 42 [encV x.v, encV y.v] [] (.ret (bA bb) []) :: cloHs [] :: (decide (x.ver = y.ver) = true) :: (d4 (decide (x.ver = y.ver) = true) (d6 (decide (x.id = y.id) = true) []))) := by
  obtain ⟨ix, vx, ⟨hx, lx⟩⟩ := x; obtain ⟨iy, vy, ⟨hy, ly⟩⟩ := y; (show _ = _; kernel_rfl)
theorem p17_1 (W : World) (A B : List Doc) : sF W { lp := true, ol := true, tl := [41] } 17 [.sl 7 (docsA A) [], .sl 7 (docsA B) []] [] 100000 [bf, ee, .loopM [] [] (S17 A B 0) (.exit 0) E17, ee] [] = .ok (.ret (bA true) [], [ee], [LZ W [] 17 0 (S17 A B 0) (.exit 0) E17, MatchK [] [] [] { t := [(0, sL 7 (docsA A)), (1, sL 7 (docsA B)), (5, iA 0)], h := [] } (S17 A B 0), (!decide ((↑(docsA A).length : Int) = (↑(docsA B).length : Int))) = false]) := by kernel_rfl
theorem p8_0 (W : World) (D : List Doc) (z : Int) : sF W { lp := true, ol := true, tl := [26] } 8 [.sl 7 (docsA D) []] [] 100000 [ee, .loopM [] [] (S8 D 0 0) (.exit 0) (E8 D z), bt, bt, bt, ee] [] = .ok (.ret (bA true) [], [ee], d3 (decide (150 < (↑(docsA D).length : Int)) = true) [LZ W [] 8 0 (S8 D 0 0) (.exit 0) (E8 D z), MatchK [] [] [] { t := [(0, sL 7 (docsA D)), (3, iA 0), (4, iA 0)], h := [] } (S8 D 0 0)]) := by kernel_rfl
theorem p8_1 (W : World) (D : List Doc) (z : Int) : sF W { lp := true, ol := true, tl := [26] } 8 [.sl 7 (docsA D) []] [] 100000 [ee, .loopM [] [] (S8 D 0 0) (.exit 0) (E8 D z), bf, bf, bf, ee] [] = .ok (.ret (bA (decide (5000 < z))) [], [ee], d3 (decide (150 < (↑(docsA D).length : Int)) = false) [LZ W [] 8 0 (S8 D 0 0) (.exit 0) (E8 D z), MatchK [] [] [] { t := [(0, sL 7 (docsA D)), (3, iA 0), (4, iA 0)], h := [] } (S8 D 0 0)]) := by kernel_rfl
theorem p7_0 (W : World) (e : Int) (h : JH) (l : List JV) : sF W { lp := true, ol := true, tl := [26] } 7 [.sl 5 [eV h l] []] [] 100000 [ee, .un, ee, .lg, ee, cR (iA e) [], ee, .un, ee] [] = .ok (.ret (bA (decide (5000 < IntKind.i64.wrap (0 + e)))) [], [aE 9999999], [MZ W 26 [eV h l, iA 5000] [] (.ret (iA e) []), cloHs []]) := by kernel_rfl
theorem p16_0 (W : World) (D M : List Doc) : sF W { lp := true, ol := true, fin := 9, tl := [] } 16 [nilS, .sl 7 (docsA D) []] [] 100000 [aE 2, .lg, ee, .loopM [(100001, 100001)] [(100000, 7)] (S16 [] D) (.exit 0) (E16 M), ee, .fin [] [] (.gs 100000 0 M.length) [(100000, .arr 40 7 (docsA M) .own)], ee] [] = .ok (.ret (.gs 100000 0 M.length) [(100000, .arr 40 7 (docsA M) .own)], [ee], [MatchK [] [] [] { t := [(0, .gs 100000 0 M.length)], h := [(100000, .arr 40 7 (docsA M) .own)] } { t := [(0, .gs 100000 0 M.length)], h := [(100000, .arr 40 7 (docsA M) .own)] }, LZ W [] 16 0 (S16 [] D) (.exit 0) (E16 M), MatchK [] [(100001, 100001)] [(100000, 7)] { t := [(0, .val (Value.slice none 0 0)), (5, .val (Value.slice none 0 0)), (6, .gs 100001 0 (0 + (docsA D).length))], h := [(100000, .dead), (100001, .arr 40 7 (docsA D) .own)] } (S16 [] D), (0 + (docsA D).length) * 104 ≤ 140737488355328]) := by kernel_rfl
theorem p5_0 (W : World) (D : List Doc) (bb : Bool) (h : JH) (l : List JV) : sF W { lp := true, ol := true, tl := [7, 8, 9, 15, 16, 17, 42] } 5 [eV h l, .sl 7 (docsA D) []] [] 100000 [ee, .lg, ee, cR (bA bb) [(100001, .arr 25 5 [eV h l] .own)], bt, bt, bt, ee, .lg, ee, cR (bA true) [], ee] [] = .ok (.ret (bA true) [], [ee], [MZ W 9 [] [] (.ret (bA true) []), cloHs [], bb = true, bb = true, bb = true, MZ W 7 [.gs 100001 0 1] [(100001, .arr 25 5 [eV h l] .own)] (.ret (bA bb) [(100001, .arr 25 5 [eV h l] .own)]), cloHs [(100001, .arr 25 5 [eV h l] .own)]]) := by kernel_rfl
theorem p5_1 (W : World) (D : List Doc) (bb b2 : Bool) (h : JH) (l : List JV) : sF W { lp := true, ol := true, tl := [7, 8, 9, 15, 16, 17, 42] } 5 [eV h l, .sl 7 (docsA D) []] [] 100000 [ee, .lg, ee, cR (bA bb) [(100001, .arr 25 5 [eV h l] .own)], bf, bf, ee, .lg, ee, cR (bA b2) [], bf, bt, ee, .lg, ee, cR (bA true) [], ee] [] = .ok (.ret (bA true) [], [ee], [MZ W 9 [] [] (.ret (bA true) []), cloHs [], b2 = true, bb = false, MZ W 8 [sL 7 (docsA D)] [] (.ret (bA b2) []), cloHs [], bb = false, bb = false, MZ W 7 [.gs 100001 0 1] [(100001, .arr 25 5 [eV h l] .own)] (.ret (bA bb) [(100001, .arr 25 5 [eV h l] .own)]), cloHs [(100001, .arr 25 5 [eV h l] .own)]]) := by kernel_rfl
theorem p5_2 (W : World) (D A : List Doc) (bb b2 : Bool) (h : JH) (l : List JV) : sF W { lp := true, ol := true, tl := [7, 8, 9, 15, 16, 17, 42] } 5 [eV h l, .sl 7 (docsA D) []] [] 100000 [ee, .lg, ee, cR (bA bb) [(100001, .arr 25 5 [eV h l] .own)], bf, bf, ee, .lg, ee, cR (bA b2) [], bf, bf, ee, .lg, ee, cR (bA true) [], ee, .lg, ee, cR (bA true) [], ee, .lg, ee, cR (sL 7 (docsA A)) [], ee, .lg, ee, cR (sL 7 (docsA A)) [], ee, .lg, ee, cR (bA true) [], ee, .lg, ee, cR (bA true) [], ee] [] = .ok (.ret (bA true) [], [aE 9999999], [MZ W 9 [] [] (.ret (bA true) []), cloHs [], MZ W 17 [sL 7 (docsA A), sL 7 (docsA A)] [] (.ret (bA true) []), cloHs [], MZ W 16 [.val (Value.slice none 0 0), sL 7 (docsA D)] [] (.ret (sL 7 (docsA A)) []), cloHs [], MZ W 15 [.val (Value.pointer none), sL 7 (docsA D)] [] (.ret (sL 7 (docsA A)) []), cloHs [], MZ W 42 [.agg [iA 0, iA 0, .str [], .val (Value.slice none 0 0), .val (Value.slice none 0 0)], .agg [iA 0, iA 0, .str [], .val (Value.slice none 0 0), .val (Value.slice none 0 0)]] [] (.ret (bA true) []), cloHs [], MZ W 42 [eV h l, eV h l] [] (.ret (bA true) []), cloHs [], b2 = false, bb = false, MZ W 8 [sL 7 (docsA D)] [] (.ret (bA b2) []), cloHs [], bb = false, bb = false, MZ W 7 [.gs 100001 0 1] [(100001, .arr 25 5 [eV h l] .own)] (.ret (bA bb) [(100001, .arr 25 5 [eV h l] .own)]), cloHs [(100001, .arr 25 5 [eV h l] .own)]]) := by kernel_rfl
theorem b17_1 (W : World) (A B : List Doc) (i : Nat) (bb : Bool) (x y : Doc) : sQ W { lp := true, ol := true, tl := [41] } 17 0 [] [0, 1, 4, 5] (S17 A B i) [bt, aE 1, oS (docA x), aE 1, oS (docA y), ee, .lg, ee, cR (bA bb) [], bf, ee] = .ok ((.normal, { t := [(0, sL 7 (docsA A)), (1, sL 7 (docsA B)), (5, iA (IntKind.i64.wrap ((↑i : Int) + 1)))], h := [] }), [ee], [(!bb) = false, MZ W 41 [docA x, docA y] [] (.ret (bA bb) []), cloHs [], (docsA B)[(↑i : Int).toNat]? = some (docA y), (docsA A)[(↑i : Int).toNat]? = some (docA x), decide ((↑i : Int) < (↑(docsA A).length : Int)) = true]) := by
  obtain ⟨ix, vx, ⟨hx, lx⟩⟩ := x; obtain ⟨iy, vy, ⟨hy, ly⟩⟩ := y; (show _ = _; kernel_rfl)
theorem b17_2 (W : World) (A B : List Doc) (i : Nat) : sQ W { lp := true, ol := true, tl := [41] } 17 0 [] [0, 1, 4, 5] (S17 A B i) [bf, ee] = .ok ((.exit 0, { t := [(0, sL 7 (docsA A)), (1, sL 7 (docsA B)), (5, iA (↑i : Int))], h := [] }), [ee], [decide ((↑i : Int) < (↑(docsA A).length : Int)) = false]) := by kernel_rfl
theorem b8_0 (W : World) (D : List Doc) (i : Nat) (z e : Int) (x : Doc) : sQ W { lp := true, ol := true, tl := [26] } 8 0 [] [0, 3, 4] (S8 D z i) [bt, bt, bt, bt, aE 1, oS (docA x), ee, .lg, ee, cR (iA e) [], ee] = .ok ((.normal, { t := [(0, sL 7 (docsA D)), (3, iA (IntKind.i64.wrap (z + e))), (4, iA (IntKind.i64.wrap ((↑i : Int) + 1)))], h := [] }), [ee], MZ W 26 [encV x.v, iA 5000] [] (.ret (iA e) []) :: cloHs [] :: ((docsA D)[(↑i : Int).toNat]? = some (docA x)) :: (decide (z ≤ 5000) = true) :: (d3 (decide ((↑i : Int) < (↑(docsA D).length : Int)) = true) [])) := by
  obtain ⟨ix, vx, ⟨hx, lx⟩⟩ := x; (show _ = _; kernel_rfl)
theorem b8_1 (W : World) (D : List Doc) (i : Nat) (z : Int) : sQ W { lp := true, ol := true, tl := [26] } 8 0 [] [0, 3, 4] (S8 D z i) [bt, bt, bt, bf, ee] = .ok ((.exit 0, { t := [(0, sL 7 (docsA D)), (3, iA z), (4, iA (↑i : Int))], h := [] }), [ee], (decide (z ≤ 5000) = false) :: (d3 (decide ((↑i : Int) < (↑(docsA D).length : Int)) = true) [])) := by kernel_rfl
theorem b8_2 (W : World) (D : List Doc) (i : Nat) (z : Int) : sQ W { lp := true, ol := true, tl := [26] } 8 0 [] [0, 3, 4] (S8 D z i) [bf, bf, bf, ee] = .ok ((.exit 0, { t := [(0, sL 7 (docsA D)), (3, iA z), (4, iA (↑i : Int))], h := [] }), [aE 9999999], d3 (decide ((↑i : Int) < (↑(docsA D).length : Int)) = false) []) := by kernel_rfl
theorem b16i_0 (W : World) (M L : List Doc) (at_ i : Nat) (z : Int) (x y : Doc) : sQ W { lp := true, ol := true, tl := [14] } 16 1 [] [0, 5, 6, 7, 8] (T16 M L at_ i) [bt, .lg, oS (docA x), .lg, oS (docA y), ee, .lg, ee, cR (iA z) [], bt, ee] = .ok ((.normal, { t := [(0, .val (Value.slice none 0 0)), (5, .gs 100000 0 M.length), (6, .gs 100001 0 L.length), (7, iA (↑i : Int)), (8, iA (IntKind.i64.wrap ((↑i : Int) + 1)))], h := [(100000, .arr 40 7 (docsA M) .own), (100001, .arr 40 7 (docsA L) .own)] }), [ee], [decide (z < 0) = true, MZ W 14 [.val (Value.slice none 0 0), docA x, docA y] [] (.ret (iA z) []), cloHs [], (docsA L)[0 + (↑at_ : Int).toNat]? = some (docA y), 0 ≤ (↑at_ : Int) ∧ (↑at_ : Int) < (↑L.length : Int), (docsA L)[0 + (↑i : Int).toNat]? = some (docA x), 0 ≤ (↑i : Int) ∧ (↑i : Int) < (↑L.length : Int), decide ((↑i : Int) < (↑L.length : Int)) = true]) := by
  obtain ⟨ix, vx, ⟨hx, lx⟩⟩ := x; obtain ⟨iy, vy, ⟨hy, ly⟩⟩ := y; (show _ = _; kernel_rfl)
theorem b16i_1 (W : World) (M L : List Doc) (at_ i : Nat) (z : Int) (x y : Doc) : sQ W { lp := true, ol := true, tl := [14] } 16 1 [] [0, 5, 6, 7, 8] (T16 M L at_ i) [bt, .lg, oS (docA x), .lg, oS (docA y), ee, .lg, ee, cR (iA z) [], bf, ee] = .ok ((.normal, { t := [(0, .val (Value.slice none 0 0)), (5, .gs 100000 0 M.length), (6, .gs 100001 0 L.length), (7, iA (↑at_ : Int)), (8, iA (IntKind.i64.wrap ((↑i : Int) + 1)))], h := [(100000, .arr 40 7 (docsA M) .own), (100001, .arr 40 7 (docsA L) .own)] }), [ee], [decide (z < 0) = false, MZ W 14 [.val (Value.slice none 0 0), docA x, docA y] [] (.ret (iA z) []), cloHs [], (docsA L)[0 + (↑at_ : Int).toNat]? = some (docA y), 0 ≤ (↑at_ : Int) ∧ (↑at_ : Int) < (↑L.length : Int), (docsA L)[0 + (↑i : Int).toNat]? = some (docA x), 0 ≤ (↑i : Int) ∧ (↑i : Int) < (↑L.length : Int), decide ((↑i : Int) < (↑L.length : Int)) = true]) := by
  obtain ⟨ix, vx, ⟨hx, lx⟩⟩ := x; obtain ⟨iy, vy, ⟨hy, ly⟩⟩ := y; (show _ = _; kernel_rfl)
theorem b16i_2 (W : World) (M L : List Doc) (at_ i : Nat) : sQ W { lp := true, ol := true, tl := [14] } 16 1 [] [0, 5, 6, 7, 8] (T16 M L at_ i) [bf, ee] = .ok ((.exit 2, { t := [(0, .val (Value.slice none 0 0)), (5, .gs 100000 0 M.length), (6, .gs 100001 0 L.length), (7, iA (↑at_ : Int)), (8, iA (↑i : Int))], h := [(100000, .arr 40 7 (docsA M) .own), (100001, .arr 40 7 (docsA L) .own)] }), [ee], [decide ((↑i : Int) < (↑L.length : Int)) = false]) := by kernel_rfl
theorem b16o_0 (W : World) (M L : List Doc) (at_ : Nat) (x : Doc) : sQ W { lp := true, ol := true, tl := [14] } 16 0 [] [0, 5, 6] (S16 M L) [bt, ee, .loopM [] [] (T16 M L 0 1) (.exit 2) (U16 M L at_), .lg, oS (docA x), aE 1, .lg, .lg, aE 1, .lg, .lg, aE 1, .lg, .lg, .lg, .lg, .lg, .lg, ee] = .ok ((.normal, { t := [(0, .val (Value.slice none 0 0)), (5, .gs 100003 0 (M.length + [docA x].length)), (6, .gs 100006 0 (0 + (List.take ((↑at_ : Int).toNat - 0) (List.drop 0 (docsA L))).length + (List.take ((↑(defLen (.gs 100001 0 L.length)) : Int).toNat - (IntKind.i64.wrap ((↑at_ : Int) + 1)).toNat) (List.drop (0 + (IntKind.i64.wrap ((↑at_ : Int) + 1)).toNat) (docsA L))).length))], h := [(100000, .dead), (100001, .arr 40 7 (docsA L) .own), (100002, .arr 40 7 [docA x] .own), (100003, .arr 40 7 (List.take M.length (docsA M) ++ [docA x]) .own), (100004, .dead), (100005, .dead), (100006, .arr 40 7 (List.take (0 + (List.take ((↑at_ : Int).toNat - 0) (List.drop 0 (docsA L))).length) ([] ++ List.take ((↑at_ : Int).toNat - 0) (List.drop 0 (docsA L))) ++ List.take ((↑(defLen (.gs 100001 0 L.length)) : Int).toNat - (IntKind.i64.wrap ((↑at_ : Int) + 1)).toNat) (List.drop (0 + (IntKind.i64.wrap ((↑at_ : Int) + 1)).toNat) (docsA L))) .own)] }), [ee], [(0 + (List.take ((↑at_ : Int).toNat - 0) (List.drop 0 (docsA L))).length + (List.take ((↑(defLen (.gs 100001 0 L.length)) : Int).toNat - (IntKind.i64.wrap ((↑at_ : Int) + 1)).toNat) (List.drop (0 + (IntKind.i64.wrap ((↑at_ : Int) + 1)).toNat) (docsA L))).length) * 104 ≤ 140737488355328, (St.shr = St.own ∨ St.shr = St.shr ∧ 0 + (List.take ((↑at_ : Int).toNat - 0) (List.drop 0 (docsA L))).length = ([] ++ List.take ((↑at_ : Int).toNat - 0) (List.drop 0 (docsA L))).length) ∧ 0 + (List.take ((↑at_ : Int).toNat - 0) (List.drop 0 (docsA L))).length ≤ ([] ++ List.take ((↑at_ : Int).toNat - 0) (List.drop 0 (docsA L))).length, decide (0 + (IntKind.i64.wrap ((↑at_ : Int) + 1)).toNat + ((↑(defLen (.gs 100001 0 L.length)) : Int).toNat - (IntKind.i64.wrap ((↑at_ : Int) + 1)).toNat) ≤ (docsA L).length) = true, IntKind.i64.wrap ((↑at_ : Int) + 1) ≤ (↑(defLen (.gs 100001 0 L.length)) : Int) ∧ (↑(defLen (.gs 100001 0 L.length)) : Int) ≤ (↑L.length : Int), 0 ≤ IntKind.i64.wrap ((↑at_ : Int) + 1) ∧ 0 ≤ (↑(defLen (.gs 100001 0 L.length)) : Int), (0 + (List.take ((↑at_ : Int).toNat - 0) (List.drop 0 (docsA L))).length) * 104 ≤ 140737488355328, decide (0 + ((↑at_ : Int).toNat - 0) ≤ (docsA L).length) = true, 0 ≤ (↑at_ : Int) ∧ (↑at_ : Int) ≤ (↑L.length : Int), (M.length + [docA x].length) * 104 ≤ 140737488355328, (St.own = St.own ∨ St.own = St.shr ∧ M.length = (docsA M).length) ∧ M.length ≤ (docsA M).length, (docsA L)[0 + (↑at_ : Int).toNat]? = some (docA x), 0 ≤ (↑at_ : Int) ∧ (↑at_ : Int) < (↑L.length : Int), LZ W [] 16 1 (T16 M L 0 1) (.exit 2) (U16 M L at_), MatchK [] [] [] { t := [(0, .val (Value.slice none 0 0)), (5, .gs 100000 0 M.length), (6, .gs 100001 0 L.length), (7, iA 0), (8, iA 1)], h := [(100000, .arr 40 7 (docsA M) .own), (100001, .arr 40 7 (docsA L) .own)] } (T16 M L 0 1), decide (0 < (↑L.length : Int)) = true]) := by
  obtain ⟨ix, vx, ⟨hx, lx⟩⟩ := x; (show _ = _; kernel_rfl)
theorem b16o_1 (W : World) (M L : List Doc) : sQ W { lp := true, ol := true, tl := [14] } 16 0 [] [0, 5, 6] (S16 M L) [bf, ee] = .ok ((.exit 0, { t := [(0, .val (Value.slice none 0 0)), (5, .gs 100000 0 M.length), (6, .gs 100001 0 L.length)], h := [(100000, .arr 40 7 (docsA M) .own), (100001, .arr 40 7 (docsA L) .own)] }), [ee], [decide (0 < (↑L.length : Int)) = false]) := by kernel_rfl
theorem p15_0 (W : World) (D D2 : List Doc) : sF W { lp := true, ol := true, tl := [40], fin := 9 } 15 [.val (.pointer none), .sl 7 (docsA D) []] [] 100000 [aE 2, .lg, ee, .lg, ee, cR (.tup []) [(100001, .arr 40 7 (docsA D2) .own)], ee, .fin [] [] (.gs 100001 0 D.length) [(100001, .arr 40 7 (docsA D2) .own)], ee] [] = .ok (.ret (.gs 100001 0 D.length) [(100001, .arr 40 7 (docsA D2) .own)], [ee], [MatchK [] [] [] { t := [(0, .gs 100001 0 (0 + (docsA D).length))], h := [(100000, .dead), (100001, .arr 40 7 (docsA D2) .own)] } { t := [(0, .gs 100001 0 D.length)], h := [(100001, .arr 40 7 (docsA D2) .own)] }, MZ W 40 [.gs 100001 0 (0 + (docsA D).length), cmS] [(100001, .arr 40 7 (docsA D) .own)] (.ret (.tup []) [(100001, .arr 40 7 (docsA D2) .own)]), cloHs [(100001, .arr 40 7 (docsA D) .own)], (0 + (docsA D).length) * 104 ≤ 140737488355328]) := by kernel_rfl
theorem cmpB_cons (x y : UInt8) (a b : List UInt8) : Lib.compareBytes (x :: a) (y :: b) = if x < y then -1 else if y < x then 1 else Lib.compareBytes a b := by rw [Lib.compareBytes]
theorem cmpB_less : ∀ a b : List UInt8, (Op.bytesLess a b = true ↔ Lib.compareBytes a b = -1) ∧ (Lib.compareBytes a b = 0 ↔ a = b) ∧ (Lib.compareBytes a b = -1 ∨ Lib.compareBytes a b = 0 ∨ Lib.compareBytes a b = 1)
  | [], [] => by simp [Op.bytesLess, Lib.compareBytes]
  | [], y :: b => by simp [Op.bytesLess, Lib.compareBytes]
  | x :: a, [] => by simp [Op.bytesLess, Lib.compareBytes]
  | x :: a, y :: b => by
    obtain ⟨i1, i2, i3⟩ := cmpB_less a b
    rw [cmpB_cons]
    by_cases h1 : x < y
    · have hne : ¬ x = y := by rintro rfl; exact absurd h1 (UInt8.lt_irrefl x)
      simp [Op.bytesLess, h1, hne]
    by_cases h2 : y < x
    · have hne : ¬ x = y := by rintro rfl; exact absurd h2 (UInt8.lt_irrefl x)
      simp [Op.bytesLess, h1, h2, hne]
    · have he : x = y := UInt8.le_antisymm (UInt8.not_lt.1 h2) (UInt8.not_lt.1 h1)
      subst he
      rw [if_neg h1, if_neg h2]
      exact ⟨by simp [Op.bytesLess, i1], by simp [i2], i3⟩
theorem zhN {p : Prop} (h : p := by and_intros <;> first | exact trivial | exact gOK_ph' rfl (by decide) rfl | exact gOK_eq rfl rfl rfl | exact gOK_arr rfl rfl rfl (docs_clo _) | exact gOK_arr rfl rfl hset1 (docs_clo _) | exact gOK_arr rfl rfl hset2 (docs_clo _)) : p := h
theorem zlN {φ ph x y} (h : LeP φ ph x y := by first | exact .eq rfl rfl | exact .nil rfl | exact .same (by rw [hws]; rfl) rfl | exact .same (by rw [hws2]; rfl) rfl | exact .eq (congrArg (AV.gs _ 0) hgl) rfl | exact .eq (congrArg (AV.gs _ 0) hgl2) rfl) : LeP φ ph x y := h
theorem ztN {p : Prop} (h : p := by and_intros <;> first | exact trivial | exact zlN) : p := h
theorem Sn_z1 {kp f ph σ σ'} (h : MatchK kp f ph σ σ' := by exact ⟨by rfl, (by simp only [nilP, nilS, cmS, S17, E17, S8, E8, S16, T16, U16, E16, tOK, List.map_cons, List.map_nil, and_true] <;> exact ztN), (by simp only [nilP, nilS, cmS, S17, E17, S8, E8, S16, T16, U16, E16, hOK, List.map_cons, List.map_nil, and_true] <;> exact zhN), (by simp only [nilP, nilS, cmS, S17, E17, S8, E8, S16, T16, U16, E16, liveT, List.map_cons, List.map_nil, and_true] <;> exact zvS), (by simp only [nilP, nilS, cmS, S17, E17, S8, E8, S16, T16, U16, E16, liveH, List.map_cons, List.map_nil, and_true] <;> exact zvS)⟩) : MatchK kp f ph σ σ' := h
theorem Sn_z2 {cs} (h : Holds cs := by simp only [Holds, cloHs, and_true] <;> and_intros <;> first | assumption | exact docs_clo _ | exact decide_eq_true (by omega) | exact decide_eq_false (by omega) | omega | exact trivial | exact .inl trivial | exact .inr ⟨trivial, hgl3⟩ | (constructor <;> omega) | exact Sn_z1) : Holds cs := h
def idLt (x y : Doc) : Bool := Op.bytesLess x.id y.id
theorem idSwo : SWO idLt := bl_swo Doc.id
theorem cmpL (a b : List UInt8) : decide (cmpB a b < 0) = Op.bytesLess a b := by
  have e : cmpB a b = Lib.compareBytes a b := Lib.cmp_eq _ _
  obtain ⟨i1, i2, i3⟩ := cmpB_less a b
  rw [e]
  cases h : Op.bytesLess a b with
  | true => rw [i1.1 h]; rfl
  | false =>
    refine decide_eq_false fun q => ?_
    have : Lib.compareBytes a b = -1 := by omega
    rw [i1.2 this] at h; cases h
theorem call13 : callable Tryz.prog 13 = true := by kernel_rfl
theorem call14 : callable Tryz.prog 14 = true := by kernel_rfl
theorem call15 : callable Tryz.prog 15 = true := by kernel_rfl
theorem call16 : callable Tryz.prog 16 = true := by kernel_rfl
theorem call17 : callable Tryz.prog 17 = true := by kernel_rfl
theorem call41 : callable Tryz.prog 41 = true := by kernel_rfl
theorem call8 : callable Tryz.prog 8 = true := by kernel_rfl
theorem call7 : callable Tryz.prog 7 = true := by kernel_rfl
theorem call5 : callable Tryz.prog 5 = true := by kernel_rfl
section
variable (W : World)
theorem cmpN : CmpC W idLt := fun x y => ⟨cmpB x.id y.id, mut_of_sfun mixedz call13 rfl (p13_0 W x y) trivial, cmpL x.id y.id⟩
theorem docs_flat (D : List Doc) : cloL (flats (docsA D)) = true := cloL_flats' (docs_clo D)
theorem order15 (D : List Doc) (hD : D.length ≤ 2 ^ 39) : Pure Tryz.prog W 15 [nilP, .sl 7 (docsA D) []] (.sl 7 (docsA (sortS idLt D)) []) := by
  have h1 := sortM W (cmpN W) idSwo D (by omega)
  have hl := sort_len (lt := idLt) D
  generalize sortS idLt D = D2 at *
  have hdl := docs_len D
  have h2 : MutC Tryz.prog W 40 [.gs 100001 0 (0 + (docsA D).length), cmS] [(100001, .arr 40 7 (docsA D) .own)] (.ret (.tup []) [(100001, .arr 40 7 (docsA D2) .own)]) := by
    rw [Nat.zero_add, hdl]
    exact mut_nameA (k1 := 100000) (by omega) (docs_flat D) (docs_flat D2) rfl rfl h1
  have q1 : (0 + (docsA D).length) * 104 ≤ 140737488355328 := by rw [hdl]; omega
  have hgl : 0 + (docsA D).length = D.length := by rw [hdl]; omega
  have hM := mut_of_sfun mixedz call15 rfl (p15_0 W D D2) Sn_z2
  rw [← hl] at hM
  exact pure_frz1 hM (docs_len D2).symm (docs_clo D2)
theorem cmpR (x y : Doc) : ∃ n : Int, MutC Tryz.prog W 14 [nilS, docA x, docA y] [] (.ret (iA n) []) ∧ decide (n < 0) = idLt x y := by
  unfold idLt
  cases h1 : Op.bytesLess x.id y.id with
  | true => exact ⟨-1, mut_of_sfun mixedz call14 rfl (p14_0 W x y) Sn_z2, rfl⟩
  | false =>
    cases h2 : (!(Op.bytesLess x.id y.id || decide (x.id = y.id))) with
    | true => exact ⟨1, mut_of_sfun mixedz call14 rfl (p14_1 W x y) Sn_z2, rfl⟩
    | false => exact ⟨0, mut_of_sfun mixedz call14 rfl (p14_2 W x y) Sn_z2, rfl⟩
theorem loop16i (M L : List Doc) (hL : L.length ≤ 2 ^ 39) : ∀ (k i m : Nat), L.length - i = k → i ≤ L.length → m < i → LoopC Tryz.prog W [] (nslots Tryz.prog 16) (loopOf Tryz.prog 16 1) (T16 M L m i) (.exit 2) (U16 M L (mnG idLt L k m i)) := by
  intro k
  induction k with
  | zero =>
    intro i m hk hi hm
    exact loop_last (by simp) (body_of_sbodyK mixedz (b16i_2 W M L m i) Sn_z2 [] [] Sn_z1)
  | succ k ih =>
    intro i m hk hi hm
    obtain ⟨x, hx⟩ := getOf (l := L) (i := i) (by omega)
    obtain ⟨y, hy⟩ := getOf (l := L) (i := m) (by omega)
    obtain ⟨n, hM, hn⟩ := cmpR W x y
    have hws : IntKind.i64.wrap ((i : Int) + 1) = ((i + 1 : Nat) : Int) := wrap_succ (by omega)
    have g1 := docs_at hx
    have g2 := docs_at hy
    rw [mnG, ltAt_eq hx hy]
    cases hlt : idLt x y with
    | true =>
      rw [hlt] at hn
      rw [if_pos rfl]
      have nx := ih (i + 1) i (by omega) (by omega) (by omega)
      exact loop_next (body_of_sbodyK mixedz (b16i_0 W M L m i n x y) (by clear nx ih; exact Sn_z2) [] [] (σ3 := T16 M L i (i + 1)) (by clear nx ih; exact Sn_z1)) nx
    | false =>
      rw [hlt] at hn
      rw [if_neg (by simp)]
      have nx := ih (i + 1) m (by omega) (by omega) (by omega)
      exact loop_next (body_of_sbodyK mixedz (b16i_1 W M L m i n x y) (by clear nx ih; exact Sn_z2) [] [] (σ3 := T16 M L m (i + 1)) (by clear nx ih; exact Sn_z1)) nx
theorem docs_app (A B : List Doc) : docsA A ++ docsA B = docsA (A ++ B) := by unfold docsA; rw [List.map_append]
theorem docs_take (A : List Doc) (n : Nat) : List.take n (docsA A) = docsA (A.take n) := by unfold docsA; rw [List.map_take]
theorem docs_drop (A : List Doc) (n : Nat) : List.drop n (docsA A) = docsA (A.drop n) := by unfold docsA; rw [List.map_drop]
theorem loop16 : ∀ (f : Nat) (M L : List Doc), L.length ≤ f → M.length + L.length ≤ 2 ^ 39 → LoopC Tryz.prog W [] (nslots Tryz.prog 16) (loopOf Tryz.prog 16 0) (S16 M L) (.exit 0) (E16 (M ++ selG idLt f L)) := by
  intro f
  induction f with
  | zero =>
    intro M L hL hb
    have e : decide (0 < (L.length : Int)) = false := decide_eq_false (by omega)
    rw [selG, List.append_nil]
    exact loop_last (by simp) (body_of_sbodyK mixedz (b16o_1 W M L) Sn_z2 [] [] Sn_z1)
  | succ f ih =>
    intro M L hL hb
    rcases Nat.eq_zero_or_pos L.length with h0 | h0
    · have e : decide (0 < (L.length : Int)) = false := decide_eq_false (by omega)
      obtain rfl := List.length_eq_zero_iff.1 h0
      rw [show selG idLt (f + 1) [] = [] from rfl, List.append_nil]
      exact loop_last (by simp) (body_of_sbodyK mixedz (b16o_1 W M []) Sn_z2 [] [] Sn_z1)
    have e : decide (0 < (L.length : Int)) = true := decide_eq_true (by omega)
    have hin := loop16i W M L (by omega) (L.length - 1) 1 0 rfl (by omega) (by omega)
    have hm : mnG idLt L (L.length - 1) 0 1 < L.length := by
      obtain ⟨a, A, rfl⟩ : ∃ a A, L = a :: A := by cases L with | nil => simp at h0 | cons a A => exact ⟨a, A, rfl⟩
      have := (mnG_ok idSwo (a :: A) ((a :: A).length - 1) 0 1 (by simp only [List.length_cons]; omega) ⟨by omega, fun x hx => ⟨fun k y hk => by omega, fun k y hk hk2 hy => by
        obtain rfl : k = 0 := by omega
        rw [hx] at hy; cases hy; exact idSwo.irr _⟩⟩).1
      simp only [List.length_cons] at this ⊢; omega
    rw [selG]
    generalize mnG idLt L (L.length - 1) 0 1 = m at *
    obtain ⟨x, hx⟩ := getOf (l := L) (i := m) hm
    rw [hx]
    have hws : IntKind.i64.wrap ((m : Int) + 1) = ((m + 1 : Nat) : Int) := wrap_succ (by omega)
    have g1 := docs_at hx
    have hdl : defLen (AV.gs 100001 0 L.length) = L.length := by simp [defLen]
    have nx := ih (M ++ [x]) (L.take m ++ L.drop (m + 1)) (by rw [List.length_append, List.length_take, List.length_drop]; omega) (by rw [List.length_append, List.length_append, List.length_take, List.length_drop]; simp only [List.length_cons, List.length_nil]; omega)
    rw [List.append_assoc, List.singleton_append] at nx
    have hM := docs_len M
    have hLl := docs_len L
    have q1 : (St.own = St.own ∨ St.own = St.shr ∧ M.length = (docsA M).length) ∧ M.length ≤ (docsA M).length := ⟨.inl rfl, by omega⟩
    have t1 : List.take ((m : Int).toNat - 0) (List.drop 0 (docsA L)) = docsA (L.take m) := by rw [Int.toNat_natCast, Nat.sub_zero, List.drop_zero, docs_take]
    have t2 : List.take ((L.length : Int).toNat - ((m + 1 : Nat) : Int).toNat) (List.drop (0 + ((m + 1 : Nat) : Int).toNat) (docsA L)) = docsA (L.drop (m + 1)) := by
      rw [Int.toNat_natCast, Int.toNat_natCast, Nat.zero_add, docs_drop, docs_take, List.take_of_length_le (by rw [List.length_drop]; exact Nat.le_refl _)]
    have l1 : (docsA (L.take m)).length = m := by rw [docs_len, List.length_take]; omega
    have l2 : (docsA (L.drop (m + 1))).length = L.length - (m + 1) := by rw [docs_len, List.length_drop]
    have hb0 := b16o_0 W M L m x
    rw [hws, hdl, t1, t2] at hb0
    have u1 : List.take (0 + (docsA (L.take m)).length) ([] ++ docsA (L.take m)) ++ docsA (L.drop (m + 1)) = docsA (L.take m ++ L.drop (m + 1)) := by
      rw [List.nil_append, Nat.zero_add, List.take_length, docs_app]
    have hset1 : List.take M.length (docsA M) ++ [docA x] = docsA (M ++ [x]) := by
      rw [← docs_len M, List.take_length]; exact docs_app M [x]
    have hgl : M.length + [docA x].length = (M ++ [x]).length := by rw [List.length_append]; rfl
    have hgl2 : 0 + (docsA (L.take m)).length + (docsA (L.drop (m + 1))).length = (L.take m ++ L.drop (m + 1)).length := by rw [docs_len, docs_len, List.length_append, Nat.zero_add]
    have q2 : (0 + (docsA (L.take m)).length + (docsA (L.drop (m + 1))).length) * 104 ≤ 140737488355328 := by rw [l1, l2]; omega
    have q3 : (St.shr = St.own ∨ St.shr = St.shr ∧ 0 + (docsA (L.take m)).length = ([] ++ docsA (L.take m)).length) ∧ 0 + (docsA (L.take m)).length ≤ ([] ++ docsA (L.take m)).length := by
      rw [List.nil_append, Nat.zero_add]; exact ⟨.inr ⟨rfl, rfl⟩, Nat.le_refl _⟩
    have q4 : decide (0 + ((m + 1 : Nat) : Int).toNat + ((L.length : Int).toNat - ((m + 1 : Nat) : Int).toNat) ≤ (docsA L).length) = true := decide_eq_true (by rw [hLl]; omega)
    have q5 : decide (0 + ((m : Int).toNat - 0) ≤ (docsA L).length) = true := decide_eq_true (by rw [hLl]; omega)
    have q6 : (M.length + [docA x].length) * 104 ≤ 140737488355328 := by simp only [List.length_cons, List.length_nil]; omega
    have q7 : (0 + (docsA (L.take m)).length) * 104 ≤ 140737488355328 := by rw [l1]; omega
    have hgl3 : 0 + (docsA (L.take m)).length = ([] ++ docsA (L.take m)).length := by rw [List.nil_append, Nat.zero_add]
    rw [u1] at hb0
    exact loop_next (body_of_sbodyK mixedz hb0 (by clear hb0 nx ih; exact Sn_z2) [(100000, 100003), (100001, 100006)] [] (σ3 := S16 (M ++ [x]) (L.take m ++ L.drop (m + 1))) (by clear hb0 nx ih; exact Sn_z1)) nx
theorem order16 (D : List Doc) (hD : D.length ≤ 2 ^ 38) : Pure Tryz.prog W 16 [nilS, .sl 7 (docsA D) []] (.sl 7 (docsA (sortS idLt D)) []) := by
  have hl := loop16 W D.length [] D (Nat.le_refl _) (by simp; omega)
  rw [List.nil_append, selG_ok idSwo _ _ (Nat.le_refl _)] at hl
  generalize sortS idLt D = D2 at *
  have hdl := docs_len D
  have q1 : (0 + (docsA D).length) * 104 ≤ 140737488355328 := by rw [hdl]; omega
  have hgl : 0 + (docsA D).length = D.length := by rw [hdl]; omega
  exact pure_frz1 (mut_of_sfun mixedz call16 rfl (p16_0 W D D2) Sn_z2) (docs_len D2).symm (docs_clo D2)
end
end Go.Ac

