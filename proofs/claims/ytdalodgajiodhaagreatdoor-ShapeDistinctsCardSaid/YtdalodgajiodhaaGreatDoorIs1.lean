/- What is proved: contracts of functions of this translation, walked; their plain meaning. No condition beyond those that each theorem names. -/
import Derived.Test.YtdalodgajiodhaaGreatDoorIHFb1
import Derived.Test.YtdalodgajiodhaaGreatDoorSo3
set_option linter.all false
namespace Go.Ac
open Go Go.Proofs
set_option maxRecDepth 10000
set_option maxHeartbeats 1000000
structure Doc where
  id : List UInt8
  ver : Int
  v : JV
def docA : Doc → AV
  | ⟨id, ver, .mk h l⟩ => .agg [.str id, iA ver, iA h.kind, iA h.int, .str h.text, .sl 1 (h.names.map AV.str) [], .sl 5 (encVs l) []]
def docsA (D : List Doc) : List AV := D.map docA
def cmS : AV := .fn (.func 13) [.val (.pointer none)] []
def arrD (D : List Doc) : List (Nat × GE) := [(100000, .arr 40 7 (docsA D) .own)]
def Sins (D : List Doc) (a b i : Nat) : AS := ⟨[(0, .gs 100000 0 D.length), (1, iA a), (2, iA b), (3, cmS), (8, iA i)], arrD D⟩
def Tins (D : List Doc) (a b i j : Nat) : AS := ⟨[(0, .gs 100000 0 D.length), (1, iA a), (2, iA b), (3, cmS), (8, iA i), (9, iA j)], arrD D⟩
def Sswp (D : List Doc) (a b n i : Nat) : AS := ⟨[(0, .gs 100000 0 D.length), (1, iA a), (2, iA b), (3, iA n), (10, iA i)], arrD D⟩
def Srot (D : List Doc) (m i j : Nat) : AS := ⟨[(0, .gs 100000 0 D.length), (2, iA m), (4, cmS), (10, iA i), (11, iA j)], arrD D⟩
def Ssy0 (D : List Doc) (a i j : Nat) : AS := ⟨[(0, .gs 100000 0 D.length), (1, iA a), (4, cmS), (10, iA i), (11, iA j)], arrD D⟩
def Ssy1 (D : List Doc) (i : Int) (k : Nat) : AS := ⟨[(0, .gs 100000 0 D.length), (10, iA i), (13, iA k)], arrD D⟩
def Ssy2 (D : List Doc) (m i j : Nat) : AS := ⟨[(0, .gs 100000 0 D.length), (2, iA m), (4, cmS), (14, iA i), (15, iA j)], arrD D⟩
def Ssy3 (D : List Doc) (i k : Nat) : AS := ⟨[(0, .gs 100000 0 D.length), (14, iA i), (17, iA k)], arrD D⟩
def Ssy4 (D : List Doc) (a m b mid n i j p : Nat) : AS := ⟨[(0, .gs 100000 0 D.length), (1, iA a), (2, iA m), (3, iA b), (4, cmS), (18, iA mid), (19, iA n), (20, iA i), (21, iA j), (22, iA p)], arrD D⟩
def Sst0 (D : List Doc) (n bs a b : Nat) : AS := ⟨[(0, .gs 100000 0 D.length), (1, iA n), (2, cmS), (6, iA bs), (7, iA a), (8, iA b)], arrD D⟩
def Sst1 (D : List Doc) (n bs : Nat) : AS := ⟨[(0, .gs 100000 0 D.length), (1, iA n), (2, cmS), (6, iA bs)], arrD D⟩
def Est (D : List Doc) : AS := ⟨[], arrD D⟩
theorem insF_0 (W : World) (D D2 : List Doc) (a b : Nat) : sF W { lp := true, ol := true, fin := 9, tl := [] } 95 [.gs 100000 0 D.length, iA a, iA b, cmS] (arrD D) 100001 [ee, .loopM [] [] (Sins D a b (a + 1)) (.exit 0) (Est D2), ee, .fin [] [] (.tup []) (arrD D2), ee] [] = .ok (.ret (.tup []) (arrD D2), [ee], [MatchK [100000] [] [] { t := [(0, .tup [])], h := (arrD D2) } { t := [(0, .tup [])], h := (arrD D2) }, LZ W [100000] 95 0 (Sins D a b (a + 1)) (.exit 0) (Est D2), MatchK [100000] [] [] { t := [(0, .gs 100000 0 D.length), (1, iA (↑a : Int)), (2, iA (↑b : Int)), (3, cmS), (8, iA (IntKind.i64.wrap ((↑a : Int) + 1)))], h := (arrD D) } { t := [(0, .gs 100000 0 D.length), (1, iA (↑a : Int)), (2, iA (↑b : Int)), (3, cmS), (8, iA (↑(a + 1) : Int))], h := (arrD D) }]) := by kernel_rfl
theorem swpF_0 (W : World) (D D2 : List Doc) (a b n : Nat) : sF W { lp := true, ol := true, fin := 9, tl := [] } 121 [.gs 100000 0 D.length, iA a, iA b, iA n, cmS] (arrD D) 100001 [ee, .loopM [] [] (Sswp D a b n 0) (.exit 0) (Est D2), ee, .fin [] [] (.tup []) (arrD D2), ee] [] = .ok (.ret (.tup []) (arrD D2), [ee], [MatchK [100000] [] [] { t := [(0, .tup [])], h := (arrD D2) } { t := [(0, .tup [])], h := (arrD D2) }, LZ W [100000] 121 0 (Sswp D a b n 0) (.exit 0) (Est D2), MatchK [100000] [] [] { t := [(0, .gs 100000 0 D.length), (1, iA (↑a : Int)), (2, iA (↑b : Int)), (3, iA (↑n : Int)), (10, iA 0)], h := (arrD D) } { t := [(0, .gs 100000 0 D.length), (1, iA (↑a : Int)), (2, iA (↑b : Int)), (3, iA (↑n : Int)), (10, iA 0)], h := (arrD D) }]) := by kernel_rfl
theorem rotF_0 (W : World) (D D1 D2 : List Doc) (a b i j k m : Nat) : sF W { lp := true, ol := true, fin := 9, tl := [121] } 108 [.gs 100000 0 D.length, iA a, iA m, iA b, cmS] (arrD D) 100001 [ee, .loopM [] [] (Srot D m i j) (.exit 0) { t := [(0, .gs 100000 0 D1.length), (2, iA (↑m : Int)), (4, cmS), (10, iA (↑k : Int))], h := arrD D1 }, .lg, ee, cR (.tup []) (arrD D2), ee, .fin [] [] (.tup []) (arrD D2), ee] [] = .ok (.ret (.tup []) (arrD D2), [ee], [MatchK [100000] [] [] { t := [(0, .tup [])], h := (arrD D2) } { t := [(0, .tup [])], h := (arrD D2) }, MZ W 121 [.gs 100000 0 D1.length, iA (IntKind.i64.wrap ((↑m : Int) - (↑k : Int))), iA (↑m : Int), iA (↑k : Int), cmS] (arrD D1) (.ret (.tup []) (arrD D2)), cloHs (arrD D1), LZ W [100000] 108 0 (Srot D m i j) (.exit 0) { t := [(0, .gs 100000 0 D1.length), (2, iA (↑m : Int)), (4, cmS), (10, iA (↑k : Int))], h := arrD D1 }, MatchK [100000] [] [] { t := [(0, .gs 100000 0 D.length), (2, iA (↑m : Int)), (4, cmS), (10, iA (IntKind.i64.wrap ((↑m : Int) - (↑a : Int)))), (11, iA (IntKind.i64.wrap ((↑b : Int) - (↑m : Int))))], h := (arrD D) } { t := [(0, .gs 100000 0 D.length), (2, iA (↑m : Int)), (4, cmS), (10, iA (↑i : Int)), (11, iA (↑j : Int))], h := (arrD D) }]) := by kernel_rfl
theorem symA_0 (W : World) (D D2 : List Doc) (a b i m : Nat) : sF W { lp := true, ol := true, fin := 9, tl := [] } 96 [.gs 100000 0 D.length, iA a, iA m, iA b, cmS] (arrD D) 100001 [bt, ee, .loopM [] [] (Ssy0 D a m b) (.exit 0) { t := [(0, .gs 100000 0 D.length), (1, iA (↑a : Int)), (10, iA (↑i : Int))], h := arrD D }, ee, .loopM [] [] (Ssy1 D (↑i : Int) a) (.exit 2) (Est D2), ee, .fin [] [] (.tup []) (arrD D2), ee] [] = .ok (.ret (.tup []) (arrD D2), [ee], [MatchK [100000] [] [] { t := [(0, .tup [])], h := (arrD D2) } { t := [(0, .tup [])], h := (arrD D2) }, LZ W [100000] 96 1 (Ssy1 D (↑i : Int) a) (.exit 2) (Est D2), MatchK [100000] [] [] { t := [(0, .gs 100000 0 D.length), (10, iA (↑i : Int)), (13, iA (↑a : Int))], h := (arrD D) } { t := [(0, .gs 100000 0 D.length), (10, iA (↑i : Int)), (13, iA (↑a : Int))], h := (arrD D) }, LZ W [100000] 96 0 (Ssy0 D a m b) (.exit 0) { t := [(0, .gs 100000 0 D.length), (1, iA (↑a : Int)), (10, iA (↑i : Int))], h := arrD D }, MatchK [100000] [] [] { t := [(0, .gs 100000 0 D.length), (1, iA (↑a : Int)), (4, cmS), (10, iA (↑m : Int)), (11, iA (↑b : Int))], h := (arrD D) } { t := [(0, .gs 100000 0 D.length), (1, iA (↑a : Int)), (4, cmS), (10, iA (↑m : Int)), (11, iA (↑b : Int))], h := (arrD D) }, decide (IntKind.i64.wrap ((↑m : Int) - (↑a : Int)) = 1) = true]) := by kernel_rfl
theorem symB_0 (W : World) (D D2 : List Doc) (a b i m : Nat) : sF W { lp := true, ol := true, fin := 9, tl := [] } 96 [.gs 100000 0 D.length, iA a, iA m, iA b, cmS] (arrD D) 100001 [bf, bt, ee, .loopM [] [] (Ssy2 D m a m) (.exit 4) { t := [(0, .gs 100000 0 D.length), (2, iA (↑m : Int)), (14, iA (↑i : Int))], h := arrD D }, ee, .loopM [] [] (Ssy3 D i m) (.exit 6) (Est D2), ee, .fin [] [] (.tup []) (arrD D2), ee] [] = .ok (.ret (.tup []) (arrD D2), [ee], [MatchK [100000] [] [] { t := [(0, .tup [])], h := (arrD D2) } { t := [(0, .tup [])], h := (arrD D2) }, LZ W [100000] 96 3 (Ssy3 D i m) (.exit 6) (Est D2), MatchK [100000] [] [] { t := [(0, .gs 100000 0 D.length), (14, iA (↑i : Int)), (17, iA (↑m : Int))], h := (arrD D) } { t := [(0, .gs 100000 0 D.length), (14, iA (↑i : Int)), (17, iA (↑m : Int))], h := (arrD D) }, LZ W [100000] 96 2 (Ssy2 D m a m) (.exit 4) { t := [(0, .gs 100000 0 D.length), (2, iA (↑m : Int)), (14, iA (↑i : Int))], h := arrD D }, MatchK [100000] [] [] { t := [(0, .gs 100000 0 D.length), (2, iA (↑m : Int)), (4, cmS), (14, iA (↑a : Int)), (15, iA (↑m : Int))], h := (arrD D) } { t := [(0, .gs 100000 0 D.length), (2, iA (↑m : Int)), (4, cmS), (14, iA (↑a : Int)), (15, iA (↑m : Int))], h := (arrD D) }, decide (IntKind.i64.wrap ((↑b : Int) - (↑m : Int)) = 1) = true, decide (IntKind.i64.wrap ((↑m : Int) - (↑a : Int)) = 1) = false]) := by kernel_rfl
theorem symLTTTT_0 (W : World) (D D1 D2 D3 : List Doc) (a b n i j m p mid st : Nat) : sF W { lp := true, ol := true, fin := 9, tl := [108, 96] } 96 [.gs 100000 0 D.length, iA a, iA m, iA b, cmS] (arrD D) 100001 [bf, bf, aE 1, bt, ee, .loopM [] [] (Ssy4 D a m b mid n i j p) (.exit 8) { t := [(0, .gs 100000 0 D.length), (1, iA (↑a : Int)), (2, iA (↑m : Int)), (3, iA (↑b : Int)), (4, cmS), (18, iA (↑mid : Int)), (19, iA (↑n : Int)), (20, iA (↑st : Int))], h := arrD D }, bt, bt, bt, bt, bt, .lg, ee, cR (.tup []) (arrD D1), bt, bt, bt, bt, bt, .lg, ee, cR (.tup []) (arrD D2), bt, bt, bt, bt, bt, .lg, ee, cR (.tup []) (arrD D3), ee, .fin [] [] (.tup []) (arrD D3), ee] [] = .ok (.ret (.tup []) (arrD D3), [ee], MatchK [100000] [] [] { t := [(0, .tup [])], h := (arrD D3) } { t := [(0, .tup [])], h := (arrD D3) } :: MZ W 96 [.gs 100000 0 D.length, iA (↑mid : Int), iA (IntKind.i64.wrap ((↑n : Int) - (↑st : Int))), iA (↑b : Int), cmS] (arrD D2) (.ret (.tup []) (arrD D3)) :: cloHs (arrD D2) :: (decide (IntKind.i64.wrap ((↑n : Int) - (↑st : Int)) < (↑b : Int)) = true) :: (d4 (decide ((↑mid : Int) < IntKind.i64.wrap ((↑n : Int) - (↑st : Int))) = true) (MZ W 96 [.gs 100000 0 D.length, iA (↑a : Int), iA (↑st : Int), iA (↑mid : Int), cmS] (arrD D1) (.ret (.tup []) (arrD D2)) :: cloHs (arrD D1) :: (decide ((↑st : Int) < (↑mid : Int)) = true) :: (d4 (decide ((↑a : Int) < (↑st : Int)) = true) (MZ W 108 [.gs 100000 0 D.length, iA (↑st : Int), iA (↑m : Int), iA (IntKind.i64.wrap ((↑n : Int) - (↑st : Int))), cmS] (arrD D) (.ret (.tup []) (arrD D1)) :: cloHs (arrD D) :: (decide ((↑m : Int) < IntKind.i64.wrap ((↑n : Int) - (↑st : Int))) = true) :: (d4 (decide ((↑st : Int) < (↑m : Int)) = true) [LZ W [100000] 96 4 (Ssy4 D a m b mid n i j p) (.exit 8) { t := [(0, .gs 100000 0 D.length), (1, iA (↑a : Int)), (2, iA (↑m : Int)), (3, iA (↑b : Int)), (4, cmS), (18, iA (↑mid : Int)), (19, iA (↑n : Int)), (20, iA (↑st : Int))], h := arrD D }, MatchK [100000] [] [] { t := [(0, .gs 100000 0 D.length), (1, iA (↑a : Int)), (2, iA (↑m : Int)), (3, iA (↑b : Int)), (4, cmS), (18, iA (IntKind.i64.wrap ((IntKind.u64.wrap (IntKind.i64.wrap ((↑a : Int) + (↑b : Int)))).fdiv 2))), (19, iA (IntKind.i64.wrap (IntKind.i64.wrap ((IntKind.u64.wrap (IntKind.i64.wrap ((↑a : Int) + (↑b : Int)))).fdiv 2) + (↑m : Int)))), (20, iA (IntKind.i64.wrap (IntKind.i64.wrap (IntKind.i64.wrap ((IntKind.u64.wrap (IntKind.i64.wrap ((↑a : Int) + (↑b : Int)))).fdiv 2) + (↑m : Int)) - (↑b : Int)))), (21, iA (IntKind.i64.wrap ((IntKind.u64.wrap (IntKind.i64.wrap ((↑a : Int) + (↑b : Int)))).fdiv 2))), (22, iA (IntKind.i64.wrap (IntKind.i64.wrap (IntKind.i64.wrap ((IntKind.u64.wrap (IntKind.i64.wrap ((↑a : Int) + (↑b : Int)))).fdiv 2) + (↑m : Int)) - 1)))], h := (arrD D) } { t := [(0, .gs 100000 0 D.length), (1, iA (↑a : Int)), (2, iA (↑m : Int)), (3, iA (↑b : Int)), (4, cmS), (18, iA (↑mid : Int)), (19, iA (↑n : Int)), (20, iA (↑i : Int)), (21, iA (↑j : Int)), (22, iA (↑p : Int))], h := (arrD D) }, decide (IntKind.i64.wrap ((IntKind.u64.wrap (IntKind.i64.wrap ((↑a : Int) + (↑b : Int)))).fdiv 2) < (↑m : Int)) = true, decide (IntKind.i64.wrap ((↑b : Int) - (↑m : Int)) = 1) = false, decide (IntKind.i64.wrap ((↑m : Int) - (↑a : Int)) = 1) = false])))))) := by kernel_rfl
theorem symLTTTF_0 (W : World) (D D1 D2 : List Doc) (a b n i j m p mid st : Nat) : sF W { lp := true, ol := true, fin := 9, tl := [108, 96] } 96 [.gs 100000 0 D.length, iA a, iA m, iA b, cmS] (arrD D) 100001 [bf, bf, aE 1, bt, ee, .loopM [] [] (Ssy4 D a m b mid n i j p) (.exit 8) { t := [(0, .gs 100000 0 D.length), (1, iA (↑a : Int)), (2, iA (↑m : Int)), (3, iA (↑b : Int)), (4, cmS), (18, iA (↑mid : Int)), (19, iA (↑n : Int)), (20, iA (↑st : Int))], h := arrD D }, bt, bt, bt, bt, bt, .lg, ee, cR (.tup []) (arrD D1), bt, bt, bt, bt, bt, .lg, ee, cR (.tup []) (arrD D2), bt, bt, bt, bt, bf, ee, .fin [] [] (.tup []) (arrD D2), ee] [] = .ok (.ret (.tup []) (arrD D2), [ee], MatchK [100000] [] [] { t := [(0, .tup [])], h := (arrD D2) } { t := [(0, .tup [])], h := (arrD D2) } :: (decide (IntKind.i64.wrap ((↑n : Int) - (↑st : Int)) < (↑b : Int)) = false) :: (d4 (decide ((↑mid : Int) < IntKind.i64.wrap ((↑n : Int) - (↑st : Int))) = true) (MZ W 96 [.gs 100000 0 D.length, iA (↑a : Int), iA (↑st : Int), iA (↑mid : Int), cmS] (arrD D1) (.ret (.tup []) (arrD D2)) :: cloHs (arrD D1) :: (decide ((↑st : Int) < (↑mid : Int)) = true) :: (d4 (decide ((↑a : Int) < (↑st : Int)) = true) (MZ W 108 [.gs 100000 0 D.length, iA (↑st : Int), iA (↑m : Int), iA (IntKind.i64.wrap ((↑n : Int) - (↑st : Int))), cmS] (arrD D) (.ret (.tup []) (arrD D1)) :: cloHs (arrD D) :: (decide ((↑m : Int) < IntKind.i64.wrap ((↑n : Int) - (↑st : Int))) = true) :: (d4 (decide ((↑st : Int) < (↑m : Int)) = true) [LZ W [100000] 96 4 (Ssy4 D a m b mid n i j p) (.exit 8) { t := [(0, .gs 100000 0 D.length), (1, iA (↑a : Int)), (2, iA (↑m : Int)), (3, iA (↑b : Int)), (4, cmS), (18, iA (↑mid : Int)), (19, iA (↑n : Int)), (20, iA (↑st : Int))], h := arrD D }, MatchK [100000] [] [] { t := [(0, .gs 100000 0 D.length), (1, iA (↑a : Int)), (2, iA (↑m : Int)), (3, iA (↑b : Int)), (4, cmS), (18, iA (IntKind.i64.wrap ((IntKind.u64.wrap (IntKind.i64.wrap ((↑a : Int) + (↑b : Int)))).fdiv 2))), (19, iA (IntKind.i64.wrap (IntKind.i64.wrap ((IntKind.u64.wrap (IntKind.i64.wrap ((↑a : Int) + (↑b : Int)))).fdiv 2) + (↑m : Int)))), (20, iA (IntKind.i64.wrap (IntKind.i64.wrap (IntKind.i64.wrap ((IntKind.u64.wrap (IntKind.i64.wrap ((↑a : Int) + (↑b : Int)))).fdiv 2) + (↑m : Int)) - (↑b : Int)))), (21, iA (IntKind.i64.wrap ((IntKind.u64.wrap (IntKind.i64.wrap ((↑a : Int) + (↑b : Int)))).fdiv 2))), (22, iA (IntKind.i64.wrap (IntKind.i64.wrap (IntKind.i64.wrap ((IntKind.u64.wrap (IntKind.i64.wrap ((↑a : Int) + (↑b : Int)))).fdiv 2) + (↑m : Int)) - 1)))], h := (arrD D) } { t := [(0, .gs 100000 0 D.length), (1, iA (↑a : Int)), (2, iA (↑m : Int)), (3, iA (↑b : Int)), (4, cmS), (18, iA (↑mid : Int)), (19, iA (↑n : Int)), (20, iA (↑i : Int)), (21, iA (↑j : Int)), (22, iA (↑p : Int))], h := (arrD D) }, decide (IntKind.i64.wrap ((IntKind.u64.wrap (IntKind.i64.wrap ((↑a : Int) + (↑b : Int)))).fdiv 2) < (↑m : Int)) = true, decide (IntKind.i64.wrap ((↑b : Int) - (↑m : Int)) = 1) = false, decide (IntKind.i64.wrap ((↑m : Int) - (↑a : Int)) = 1) = false])))))) := by kernel_rfl
theorem symLTTFT_0 (W : World) (D D1 D3 : List Doc) (a b n i j m p mid st : Nat) : sF W { lp := true, ol := true, fin := 9, tl := [108, 96] } 96 [.gs 100000 0 D.length, iA a, iA m, iA b, cmS] (arrD D) 100001 [bf, bf, aE 1, bt, ee, .loopM [] [] (Ssy4 D a m b mid n i j p) (.exit 8) { t := [(0, .gs 100000 0 D.length), (1, iA (↑a : Int)), (2, iA (↑m : Int)), (3, iA (↑b : Int)), (4, cmS), (18, iA (↑mid : Int)), (19, iA (↑n : Int)), (20, iA (↑st : Int))], h := arrD D }, bt, bt, bt, bt, bt, .lg, ee, cR (.tup []) (arrD D1), bf, bf, bf, bf, aE 1, bt, bt, bt, bt, bt, .lg, ee, cR (.tup []) (arrD D3), ee, .fin [] [] (.tup []) (arrD D3), ee] [] = .ok (.ret (.tup []) (arrD D3), [ee], MatchK [100000] [] [] { t := [(0, .tup [])], h := (arrD D3) } { t := [(0, .tup [])], h := (arrD D3) } :: MZ W 96 [.gs 100000 0 D.length, iA (↑mid : Int), iA (IntKind.i64.wrap ((↑n : Int) - (↑st : Int))), iA (↑b : Int), cmS] (arrD D1) (.ret (.tup []) (arrD D3)) :: cloHs (arrD D1) :: (decide (IntKind.i64.wrap ((↑n : Int) - (↑st : Int)) < (↑b : Int)) = true) :: (d4 (decide ((↑mid : Int) < IntKind.i64.wrap ((↑n : Int) - (↑st : Int))) = true) (d4 (decide ((↑a : Int) < (↑st : Int)) = false) (MZ W 108 [.gs 100000 0 D.length, iA (↑st : Int), iA (↑m : Int), iA (IntKind.i64.wrap ((↑n : Int) - (↑st : Int))), cmS] (arrD D) (.ret (.tup []) (arrD D1)) :: cloHs (arrD D) :: (decide ((↑m : Int) < IntKind.i64.wrap ((↑n : Int) - (↑st : Int))) = true) :: (d4 (decide ((↑st : Int) < (↑m : Int)) = true) [LZ W [100000] 96 4 (Ssy4 D a m b mid n i j p) (.exit 8) { t := [(0, .gs 100000 0 D.length), (1, iA (↑a : Int)), (2, iA (↑m : Int)), (3, iA (↑b : Int)), (4, cmS), (18, iA (↑mid : Int)), (19, iA (↑n : Int)), (20, iA (↑st : Int))], h := arrD D }, MatchK [100000] [] [] { t := [(0, .gs 100000 0 D.length), (1, iA (↑a : Int)), (2, iA (↑m : Int)), (3, iA (↑b : Int)), (4, cmS), (18, iA (IntKind.i64.wrap ((IntKind.u64.wrap (IntKind.i64.wrap ((↑a : Int) + (↑b : Int)))).fdiv 2))), (19, iA (IntKind.i64.wrap (IntKind.i64.wrap ((IntKind.u64.wrap (IntKind.i64.wrap ((↑a : Int) + (↑b : Int)))).fdiv 2) + (↑m : Int)))), (20, iA (IntKind.i64.wrap (IntKind.i64.wrap (IntKind.i64.wrap ((IntKind.u64.wrap (IntKind.i64.wrap ((↑a : Int) + (↑b : Int)))).fdiv 2) + (↑m : Int)) - (↑b : Int)))), (21, iA (IntKind.i64.wrap ((IntKind.u64.wrap (IntKind.i64.wrap ((↑a : Int) + (↑b : Int)))).fdiv 2))), (22, iA (IntKind.i64.wrap (IntKind.i64.wrap (IntKind.i64.wrap ((IntKind.u64.wrap (IntKind.i64.wrap ((↑a : Int) + (↑b : Int)))).fdiv 2) + (↑m : Int)) - 1)))], h := (arrD D) } { t := [(0, .gs 100000 0 D.length), (1, iA (↑a : Int)), (2, iA (↑m : Int)), (3, iA (↑b : Int)), (4, cmS), (18, iA (↑mid : Int)), (19, iA (↑n : Int)), (20, iA (↑i : Int)), (21, iA (↑j : Int)), (22, iA (↑p : Int))], h := (arrD D) }, decide (IntKind.i64.wrap ((IntKind.u64.wrap (IntKind.i64.wrap ((↑a : Int) + (↑b : Int)))).fdiv 2) < (↑m : Int)) = true, decide (IntKind.i64.wrap ((↑b : Int) - (↑m : Int)) = 1) = false, decide (IntKind.i64.wrap ((↑m : Int) - (↑a : Int)) = 1) = false]))))) := by kernel_rfl
theorem symLTTFF_0 (W : World) (D D1 : List Doc) (a b n i j m p mid st : Nat) : sF W { lp := true, ol := true, fin := 9, tl := [108, 96] } 96 [.gs 100000 0 D.length, iA a, iA m, iA b, cmS] (arrD D) 100001 [bf, bf, aE 1, bt, ee, .loopM [] [] (Ssy4 D a m b mid n i j p) (.exit 8) { t := [(0, .gs 100000 0 D.length), (1, iA (↑a : Int)), (2, iA (↑m : Int)), (3, iA (↑b : Int)), (4, cmS), (18, iA (↑mid : Int)), (19, iA (↑n : Int)), (20, iA (↑st : Int))], h := arrD D }, bt, bt, bt, bt, bt, .lg, ee, cR (.tup []) (arrD D1), bf, bf, bf, bf, aE 1, bt, bt, bt, bt, bf, ee, .fin [] [] (.tup []) (arrD D1), ee] [] = .ok (.ret (.tup []) (arrD D1), [ee], MatchK [100000] [] [] { t := [(0, .tup [])], h := (arrD D1) } { t := [(0, .tup [])], h := (arrD D1) } :: (decide (IntKind.i64.wrap ((↑n : Int) - (↑st : Int)) < (↑b : Int)) = false) :: (d4 (decide ((↑mid : Int) < IntKind.i64.wrap ((↑n : Int) - (↑st : Int))) = true) (d4 (decide ((↑a : Int) < (↑st : Int)) = false) (MZ W 108 [.gs 100000 0 D.length, iA (↑st : Int), iA (↑m : Int), iA (IntKind.i64.wrap ((↑n : Int) - (↑st : Int))), cmS] (arrD D) (.ret (.tup []) (arrD D1)) :: cloHs (arrD D) :: (decide ((↑m : Int) < IntKind.i64.wrap ((↑n : Int) - (↑st : Int))) = true) :: (d4 (decide ((↑st : Int) < (↑m : Int)) = true) [LZ W [100000] 96 4 (Ssy4 D a m b mid n i j p) (.exit 8) { t := [(0, .gs 100000 0 D.length), (1, iA (↑a : Int)), (2, iA (↑m : Int)), (3, iA (↑b : Int)), (4, cmS), (18, iA (↑mid : Int)), (19, iA (↑n : Int)), (20, iA (↑st : Int))], h := arrD D }, MatchK [100000] [] [] { t := [(0, .gs 100000 0 D.length), (1, iA (↑a : Int)), (2, iA (↑m : Int)), (3, iA (↑b : Int)), (4, cmS), (18, iA (IntKind.i64.wrap ((IntKind.u64.wrap (IntKind.i64.wrap ((↑a : Int) + (↑b : Int)))).fdiv 2))), (19, iA (IntKind.i64.wrap (IntKind.i64.wrap ((IntKind.u64.wrap (IntKind.i64.wrap ((↑a : Int) + (↑b : Int)))).fdiv 2) + (↑m : Int)))), (20, iA (IntKind.i64.wrap (IntKind.i64.wrap (IntKind.i64.wrap ((IntKind.u64.wrap (IntKind.i64.wrap ((↑a : Int) + (↑b : Int)))).fdiv 2) + (↑m : Int)) - (↑b : Int)))), (21, iA (IntKind.i64.wrap ((IntKind.u64.wrap (IntKind.i64.wrap ((↑a : Int) + (↑b : Int)))).fdiv 2))), (22, iA (IntKind.i64.wrap (IntKind.i64.wrap (IntKind.i64.wrap ((IntKind.u64.wrap (IntKind.i64.wrap ((↑a : Int) + (↑b : Int)))).fdiv 2) + (↑m : Int)) - 1)))], h := (arrD D) } { t := [(0, .gs 100000 0 D.length), (1, iA (↑a : Int)), (2, iA (↑m : Int)), (3, iA (↑b : Int)), (4, cmS), (18, iA (↑mid : Int)), (19, iA (↑n : Int)), (20, iA (↑i : Int)), (21, iA (↑j : Int)), (22, iA (↑p : Int))], h := (arrD D) }, decide (IntKind.i64.wrap ((IntKind.u64.wrap (IntKind.i64.wrap ((↑a : Int) + (↑b : Int)))).fdiv 2) < (↑m : Int)) = true, decide (IntKind.i64.wrap ((↑b : Int) - (↑m : Int)) = 1) = false, decide (IntKind.i64.wrap ((↑m : Int) - (↑a : Int)) = 1) = false]))))) := by kernel_rfl
theorem symLTFTT_0 (W : World) (D D3 : List Doc) (a b n i j m p mid st : Nat) : sF W { lp := true, ol := true, fin := 9, tl := [108, 96] } 96 [.gs 100000 0 D.length, iA a, iA m, iA b, cmS] (arrD D) 100001 [bf, bf, aE 1, bt, ee, .loopM [] [] (Ssy4 D a m b mid n i j p) (.exit 8) { t := [(0, .gs 100000 0 D.length), (1, iA (↑a : Int)), (2, iA (↑m : Int)), (3, iA (↑b : Int)), (4, cmS), (18, iA (↑mid : Int)), (19, iA (↑n : Int)), (20, iA (↑st : Int))], h := arrD D }, bt, bt, bt, bt, bf, bt, bt, bt, bt, bf, bt, bt, bt, bt, bt, .lg, ee, cR (.tup []) (arrD D3), ee, .fin [] [] (.tup []) (arrD D3), ee] [] = .ok (.ret (.tup []) (arrD D3), [ee], MatchK [100000] [] [] { t := [(0, .tup [])], h := (arrD D3) } { t := [(0, .tup [])], h := (arrD D3) } :: MZ W 96 [.gs 100000 0 D.length, iA (↑mid : Int), iA (IntKind.i64.wrap ((↑n : Int) - (↑st : Int))), iA (↑b : Int), cmS] (arrD D) (.ret (.tup []) (arrD D3)) :: cloHs (arrD D) :: (decide (IntKind.i64.wrap ((↑n : Int) - (↑st : Int)) < (↑b : Int)) = true) :: (d4 (decide ((↑mid : Int) < IntKind.i64.wrap ((↑n : Int) - (↑st : Int))) = true) ((decide ((↑st : Int) < (↑mid : Int)) = false) :: (d4 (decide ((↑a : Int) < (↑st : Int)) = true) ((decide ((↑m : Int) < IntKind.i64.wrap ((↑n : Int) - (↑st : Int))) = false) :: (d4 (decide ((↑st : Int) < (↑m : Int)) = true) [LZ W [100000] 96 4 (Ssy4 D a m b mid n i j p) (.exit 8) { t := [(0, .gs 100000 0 D.length), (1, iA (↑a : Int)), (2, iA (↑m : Int)), (3, iA (↑b : Int)), (4, cmS), (18, iA (↑mid : Int)), (19, iA (↑n : Int)), (20, iA (↑st : Int))], h := arrD D }, MatchK [100000] [] [] { t := [(0, .gs 100000 0 D.length), (1, iA (↑a : Int)), (2, iA (↑m : Int)), (3, iA (↑b : Int)), (4, cmS), (18, iA (IntKind.i64.wrap ((IntKind.u64.wrap (IntKind.i64.wrap ((↑a : Int) + (↑b : Int)))).fdiv 2))), (19, iA (IntKind.i64.wrap (IntKind.i64.wrap ((IntKind.u64.wrap (IntKind.i64.wrap ((↑a : Int) + (↑b : Int)))).fdiv 2) + (↑m : Int)))), (20, iA (IntKind.i64.wrap (IntKind.i64.wrap (IntKind.i64.wrap ((IntKind.u64.wrap (IntKind.i64.wrap ((↑a : Int) + (↑b : Int)))).fdiv 2) + (↑m : Int)) - (↑b : Int)))), (21, iA (IntKind.i64.wrap ((IntKind.u64.wrap (IntKind.i64.wrap ((↑a : Int) + (↑b : Int)))).fdiv 2))), (22, iA (IntKind.i64.wrap (IntKind.i64.wrap (IntKind.i64.wrap ((IntKind.u64.wrap (IntKind.i64.wrap ((↑a : Int) + (↑b : Int)))).fdiv 2) + (↑m : Int)) - 1)))], h := (arrD D) } { t := [(0, .gs 100000 0 D.length), (1, iA (↑a : Int)), (2, iA (↑m : Int)), (3, iA (↑b : Int)), (4, cmS), (18, iA (↑mid : Int)), (19, iA (↑n : Int)), (20, iA (↑i : Int)), (21, iA (↑j : Int)), (22, iA (↑p : Int))], h := (arrD D) }, decide (IntKind.i64.wrap ((IntKind.u64.wrap (IntKind.i64.wrap ((↑a : Int) + (↑b : Int)))).fdiv 2) < (↑m : Int)) = true, decide (IntKind.i64.wrap ((↑b : Int) - (↑m : Int)) = 1) = false, decide (IntKind.i64.wrap ((↑m : Int) - (↑a : Int)) = 1) = false])))))) := by kernel_rfl
theorem symHFTTN_0 (W : World) (D D2 : List Doc) (a b n i j m p mid st : Nat) : sF W { lp := true, ol := true, fin := 9, tl := [108, 96] } 96 [.gs 100000 0 D.length, iA a, iA m, iA b, cmS] (arrD D) 100001 [bf, bf, aE 1, bf, ee, .loopM [] [] (Ssy4 D a m b mid n i j p) (.exit 8) { t := [(0, .gs 100000 0 D.length), (1, iA (↑a : Int)), (2, iA (↑m : Int)), (3, iA (↑b : Int)), (4, cmS), (18, iA (↑mid : Int)), (19, iA (↑n : Int)), (20, iA (↑st : Int))], h := arrD D }, bf, bf, bf, bf, aE 1, bt, bt, bt, bt, bt, .lg, ee, cR (.tup []) (arrD D2), bf, bf, bf, bf, ee, .fin [] [] (.tup []) (arrD D2), ee] [] = .ok (.ret (.tup []) (arrD D2), [ee], MatchK [100000] [] [] { t := [(0, .tup [])], h := (arrD D2) } { t := [(0, .tup [])], h := (arrD D2) } :: (d4 (decide ((↑mid : Int) < IntKind.i64.wrap ((↑n : Int) - (↑st : Int))) = false) (MZ W 96 [.gs 100000 0 D.length, iA (↑a : Int), iA (↑st : Int), iA (↑mid : Int), cmS] (arrD D) (.ret (.tup []) (arrD D2)) :: cloHs (arrD D) :: (decide ((↑st : Int) < (↑mid : Int)) = true) :: (d4 (decide ((↑a : Int) < (↑st : Int)) = true) (d4 (decide ((↑st : Int) < (↑m : Int)) = false) [LZ W [100000] 96 4 (Ssy4 D a m b mid n i j p) (.exit 8) { t := [(0, .gs 100000 0 D.length), (1, iA (↑a : Int)), (2, iA (↑m : Int)), (3, iA (↑b : Int)), (4, cmS), (18, iA (↑mid : Int)), (19, iA (↑n : Int)), (20, iA (↑st : Int))], h := arrD D }, MatchK [100000] [] [] { t := [(0, .gs 100000 0 D.length), (1, iA (↑a : Int)), (2, iA (↑m : Int)), (3, iA (↑b : Int)), (4, cmS), (18, iA (IntKind.i64.wrap ((IntKind.u64.wrap (IntKind.i64.wrap ((↑a : Int) + (↑b : Int)))).fdiv 2))), (19, iA (IntKind.i64.wrap (IntKind.i64.wrap ((IntKind.u64.wrap (IntKind.i64.wrap ((↑a : Int) + (↑b : Int)))).fdiv 2) + (↑m : Int)))), (20, iA (↑a : Int)), (21, iA (↑m : Int)), (22, iA (IntKind.i64.wrap (IntKind.i64.wrap (IntKind.i64.wrap ((IntKind.u64.wrap (IntKind.i64.wrap ((↑a : Int) + (↑b : Int)))).fdiv 2) + (↑m : Int)) - 1)))], h := (arrD D) } { t := [(0, .gs 100000 0 D.length), (1, iA (↑a : Int)), (2, iA (↑m : Int)), (3, iA (↑b : Int)), (4, cmS), (18, iA (↑mid : Int)), (19, iA (↑n : Int)), (20, iA (↑i : Int)), (21, iA (↑j : Int)), (22, iA (↑p : Int))], h := (arrD D) }, decide (IntKind.i64.wrap ((IntKind.u64.wrap (IntKind.i64.wrap ((↑a : Int) + (↑b : Int)))).fdiv 2) < (↑m : Int)) = false, decide (IntKind.i64.wrap ((↑b : Int) - (↑m : Int)) = 1) = false, decide (IntKind.i64.wrap ((↑m : Int) - (↑a : Int)) = 1) = false]))))) := by kernel_rfl
theorem symHFFTN_0 (W : World) (D : List Doc) (a b n i j m p mid st : Nat) : sF W { lp := true, ol := true, fin := 9, tl := [108, 96] } 96 [.gs 100000 0 D.length, iA a, iA m, iA b, cmS] (arrD D) 100001 [bf, bf, aE 1, bf, ee, .loopM [] [] (Ssy4 D a m b mid n i j p) (.exit 8) { t := [(0, .gs 100000 0 D.length), (1, iA (↑a : Int)), (2, iA (↑m : Int)), (3, iA (↑b : Int)), (4, cmS), (18, iA (↑mid : Int)), (19, iA (↑n : Int)), (20, iA (↑st : Int))], h := arrD D }, bf, bf, bf, bf, aE 1, bt, bt, bt, bt, bf, bf, bf, bf, bf, ee, .fin [] [] (.tup []) (arrD D), ee] [] = .ok (.ret (.tup []) (arrD D), [ee], MatchK [100000] [] [] { t := [(0, .tup [])], h := (arrD D) } { t := [(0, .tup [])], h := (arrD D) } :: (d4 (decide ((↑mid : Int) < IntKind.i64.wrap ((↑n : Int) - (↑st : Int))) = false) ((decide ((↑st : Int) < (↑mid : Int)) = false) :: (d4 (decide ((↑a : Int) < (↑st : Int)) = true) (d4 (decide ((↑st : Int) < (↑m : Int)) = false) [LZ W [100000] 96 4 (Ssy4 D a m b mid n i j p) (.exit 8) { t := [(0, .gs 100000 0 D.length), (1, iA (↑a : Int)), (2, iA (↑m : Int)), (3, iA (↑b : Int)), (4, cmS), (18, iA (↑mid : Int)), (19, iA (↑n : Int)), (20, iA (↑st : Int))], h := arrD D }, MatchK [100000] [] [] { t := [(0, .gs 100000 0 D.length), (1, iA (↑a : Int)), (2, iA (↑m : Int)), (3, iA (↑b : Int)), (4, cmS), (18, iA (IntKind.i64.wrap ((IntKind.u64.wrap (IntKind.i64.wrap ((↑a : Int) + (↑b : Int)))).fdiv 2))), (19, iA (IntKind.i64.wrap (IntKind.i64.wrap ((IntKind.u64.wrap (IntKind.i64.wrap ((↑a : Int) + (↑b : Int)))).fdiv 2) + (↑m : Int)))), (20, iA (↑a : Int)), (21, iA (↑m : Int)), (22, iA (IntKind.i64.wrap (IntKind.i64.wrap (IntKind.i64.wrap ((IntKind.u64.wrap (IntKind.i64.wrap ((↑a : Int) + (↑b : Int)))).fdiv 2) + (↑m : Int)) - 1)))], h := (arrD D) } { t := [(0, .gs 100000 0 D.length), (1, iA (↑a : Int)), (2, iA (↑m : Int)), (3, iA (↑b : Int)), (4, cmS), (18, iA (↑mid : Int)), (19, iA (↑n : Int)), (20, iA (↑i : Int)), (21, iA (↑j : Int)), (22, iA (↑p : Int))], h := (arrD D) }, decide (IntKind.i64.wrap ((IntKind.u64.wrap (IntKind.i64.wrap ((↑a : Int) + (↑b : Int)))).fdiv 2) < (↑m : Int)) = false, decide (IntKind.i64.wrap ((↑b : Int) - (↑m : Int)) = 1) = false, decide (IntKind.i64.wrap ((↑m : Int) - (↑a : Int)) = 1) = false]))))) := by kernel_rfl
theorem symHTTTT_0 (W : World) (D D1 D2 D3 : List Doc) (a b n i j m p mid st : Nat) : sF W { lp := true, ol := true, fin := 9, tl := [108, 96] } 96 [.gs 100000 0 D.length, iA a, iA m, iA b, cmS] (arrD D) 100001 [bf, bf, aE 1, bf, ee, .loopM [] [] (Ssy4 D a m b mid n i j p) (.exit 8) { t := [(0, .gs 100000 0 D.length), (1, iA (↑a : Int)), (2, iA (↑m : Int)), (3, iA (↑b : Int)), (4, cmS), (18, iA (↑mid : Int)), (19, iA (↑n : Int)), (20, iA (↑st : Int))], h := arrD D }, bt, bt, bt, bt, bt, .lg, ee, cR (.tup []) (arrD D1), bt, bt, bt, bt, bt, .lg, ee, cR (.tup []) (arrD D2), bt, bt, bt, bt, bt, .lg, ee, cR (.tup []) (arrD D3), ee, .fin [] [] (.tup []) (arrD D3), ee] [] = .ok (.ret (.tup []) (arrD D3), [ee], MatchK [100000] [] [] { t := [(0, .tup [])], h := (arrD D3) } { t := [(0, .tup [])], h := (arrD D3) } :: MZ W 96 [.gs 100000 0 D.length, iA (↑mid : Int), iA (IntKind.i64.wrap ((↑n : Int) - (↑st : Int))), iA (↑b : Int), cmS] (arrD D2) (.ret (.tup []) (arrD D3)) :: cloHs (arrD D2) :: (decide (IntKind.i64.wrap ((↑n : Int) - (↑st : Int)) < (↑b : Int)) = true) :: (d4 (decide ((↑mid : Int) < IntKind.i64.wrap ((↑n : Int) - (↑st : Int))) = true) (MZ W 96 [.gs 100000 0 D.length, iA (↑a : Int), iA (↑st : Int), iA (↑mid : Int), cmS] (arrD D1) (.ret (.tup []) (arrD D2)) :: cloHs (arrD D1) :: (decide ((↑st : Int) < (↑mid : Int)) = true) :: (d4 (decide ((↑a : Int) < (↑st : Int)) = true) (MZ W 108 [.gs 100000 0 D.length, iA (↑st : Int), iA (↑m : Int), iA (IntKind.i64.wrap ((↑n : Int) - (↑st : Int))), cmS] (arrD D) (.ret (.tup []) (arrD D1)) :: cloHs (arrD D) :: (decide ((↑m : Int) < IntKind.i64.wrap ((↑n : Int) - (↑st : Int))) = true) :: (d4 (decide ((↑st : Int) < (↑m : Int)) = true) [LZ W [100000] 96 4 (Ssy4 D a m b mid n i j p) (.exit 8) { t := [(0, .gs 100000 0 D.length), (1, iA (↑a : Int)), (2, iA (↑m : Int)), (3, iA (↑b : Int)), (4, cmS), (18, iA (↑mid : Int)), (19, iA (↑n : Int)), (20, iA (↑st : Int))], h := arrD D }, MatchK [100000] [] [] { t := [(0, .gs 100000 0 D.length), (1, iA (↑a : Int)), (2, iA (↑m : Int)), (3, iA (↑b : Int)), (4, cmS), (18, iA (IntKind.i64.wrap ((IntKind.u64.wrap (IntKind.i64.wrap ((↑a : Int) + (↑b : Int)))).fdiv 2))), (19, iA (IntKind.i64.wrap (IntKind.i64.wrap ((IntKind.u64.wrap (IntKind.i64.wrap ((↑a : Int) + (↑b : Int)))).fdiv 2) + (↑m : Int)))), (20, iA (↑a : Int)), (21, iA (↑m : Int)), (22, iA (IntKind.i64.wrap (IntKind.i64.wrap (IntKind.i64.wrap ((IntKind.u64.wrap (IntKind.i64.wrap ((↑a : Int) + (↑b : Int)))).fdiv 2) + (↑m : Int)) - 1)))], h := (arrD D) } { t := [(0, .gs 100000 0 D.length), (1, iA (↑a : Int)), (2, iA (↑m : Int)), (3, iA (↑b : Int)), (4, cmS), (18, iA (↑mid : Int)), (19, iA (↑n : Int)), (20, iA (↑i : Int)), (21, iA (↑j : Int)), (22, iA (↑p : Int))], h := (arrD D) }, decide (IntKind.i64.wrap ((IntKind.u64.wrap (IntKind.i64.wrap ((↑a : Int) + (↑b : Int)))).fdiv 2) < (↑m : Int)) = false, decide (IntKind.i64.wrap ((↑b : Int) - (↑m : Int)) = 1) = false, decide (IntKind.i64.wrap ((↑m : Int) - (↑a : Int)) = 1) = false])))))) := by kernel_rfl
theorem symHTTTF_0 (W : World) (D D1 D2 : List Doc) (a b n i j m p mid st : Nat) : sF W { lp := true, ol := true, fin := 9, tl := [108, 96] } 96 [.gs 100000 0 D.length, iA a, iA m, iA b, cmS] (arrD D) 100001 [bf, bf, aE 1, bf, ee, .loopM [] [] (Ssy4 D a m b mid n i j p) (.exit 8) { t := [(0, .gs 100000 0 D.length), (1, iA (↑a : Int)), (2, iA (↑m : Int)), (3, iA (↑b : Int)), (4, cmS), (18, iA (↑mid : Int)), (19, iA (↑n : Int)), (20, iA (↑st : Int))], h := arrD D }, bt, bt, bt, bt, bt, .lg, ee, cR (.tup []) (arrD D1), bt, bt, bt, bt, bt, .lg, ee, cR (.tup []) (arrD D2), bt, bt, bt, bt, bf, ee, .fin [] [] (.tup []) (arrD D2), ee] [] = .ok (.ret (.tup []) (arrD D2), [ee], MatchK [100000] [] [] { t := [(0, .tup [])], h := (arrD D2) } { t := [(0, .tup [])], h := (arrD D2) } :: (decide (IntKind.i64.wrap ((↑n : Int) - (↑st : Int)) < (↑b : Int)) = false) :: (d4 (decide ((↑mid : Int) < IntKind.i64.wrap ((↑n : Int) - (↑st : Int))) = true) (MZ W 96 [.gs 100000 0 D.length, iA (↑a : Int), iA (↑st : Int), iA (↑mid : Int), cmS] (arrD D1) (.ret (.tup []) (arrD D2)) :: cloHs (arrD D1) :: (decide ((↑st : Int) < (↑mid : Int)) = true) :: (d4 (decide ((↑a : Int) < (↑st : Int)) = true) (MZ W 108 [.gs 100000 0 D.length, iA (↑st : Int), iA (↑m : Int), iA (IntKind.i64.wrap ((↑n : Int) - (↑st : Int))), cmS] (arrD D) (.ret (.tup []) (arrD D1)) :: cloHs (arrD D) :: (decide ((↑m : Int) < IntKind.i64.wrap ((↑n : Int) - (↑st : Int))) = true) :: (d4 (decide ((↑st : Int) < (↑m : Int)) = true) [LZ W [100000] 96 4 (Ssy4 D a m b mid n i j p) (.exit 8) { t := [(0, .gs 100000 0 D.length), (1, iA (↑a : Int)), (2, iA (↑m : Int)), (3, iA (↑b : Int)), (4, cmS), (18, iA (↑mid : Int)), (19, iA (↑n : Int)), (20, iA (↑st : Int))], h := arrD D }, MatchK [100000] [] [] { t := [(0, .gs 100000 0 D.length), (1, iA (↑a : Int)), (2, iA (↑m : Int)), (3, iA (↑b : Int)), (4, cmS), (18, iA (IntKind.i64.wrap ((IntKind.u64.wrap (IntKind.i64.wrap ((↑a : Int) + (↑b : Int)))).fdiv 2))), (19, iA (IntKind.i64.wrap (IntKind.i64.wrap ((IntKind.u64.wrap (IntKind.i64.wrap ((↑a : Int) + (↑b : Int)))).fdiv 2) + (↑m : Int)))), (20, iA (↑a : Int)), (21, iA (↑m : Int)), (22, iA (IntKind.i64.wrap (IntKind.i64.wrap (IntKind.i64.wrap ((IntKind.u64.wrap (IntKind.i64.wrap ((↑a : Int) + (↑b : Int)))).fdiv 2) + (↑m : Int)) - 1)))], h := (arrD D) } { t := [(0, .gs 100000 0 D.length), (1, iA (↑a : Int)), (2, iA (↑m : Int)), (3, iA (↑b : Int)), (4, cmS), (18, iA (↑mid : Int)), (19, iA (↑n : Int)), (20, iA (↑i : Int)), (21, iA (↑j : Int)), (22, iA (↑p : Int))], h := (arrD D) }, decide (IntKind.i64.wrap ((IntKind.u64.wrap (IntKind.i64.wrap ((↑a : Int) + (↑b : Int)))).fdiv 2) < (↑m : Int)) = false, decide (IntKind.i64.wrap ((↑b : Int) - (↑m : Int)) = 1) = false, decide (IntKind.i64.wrap ((↑m : Int) - (↑a : Int)) = 1) = false])))))) := by kernel_rfl
theorem symHTTFT_0 (W : World) (D D1 D3 : List Doc) (a b n i j m p mid st : Nat) : sF W { lp := true, ol := true, fin := 9, tl := [108, 96] } 96 [.gs 100000 0 D.length, iA a, iA m, iA b, cmS] (arrD D) 100001 [bf, bf, aE 1, bf, ee, .loopM [] [] (Ssy4 D a m b mid n i j p) (.exit 8) { t := [(0, .gs 100000 0 D.length), (1, iA (↑a : Int)), (2, iA (↑m : Int)), (3, iA (↑b : Int)), (4, cmS), (18, iA (↑mid : Int)), (19, iA (↑n : Int)), (20, iA (↑st : Int))], h := arrD D }, bt, bt, bt, bt, bt, .lg, ee, cR (.tup []) (arrD D1), bf, bf, bf, bf, aE 1, bt, bt, bt, bt, bt, .lg, ee, cR (.tup []) (arrD D3), ee, .fin [] [] (.tup []) (arrD D3), ee] [] = .ok (.ret (.tup []) (arrD D3), [ee], MatchK [100000] [] [] { t := [(0, .tup [])], h := (arrD D3) } { t := [(0, .tup [])], h := (arrD D3) } :: MZ W 96 [.gs 100000 0 D.length, iA (↑mid : Int), iA (IntKind.i64.wrap ((↑n : Int) - (↑st : Int))), iA (↑b : Int), cmS] (arrD D1) (.ret (.tup []) (arrD D3)) :: cloHs (arrD D1) :: (decide (IntKind.i64.wrap ((↑n : Int) - (↑st : Int)) < (↑b : Int)) = true) :: (d4 (decide ((↑mid : Int) < IntKind.i64.wrap ((↑n : Int) - (↑st : Int))) = true) (d4 (decide ((↑a : Int) < (↑st : Int)) = false) (MZ W 108 [.gs 100000 0 D.length, iA (↑st : Int), iA (↑m : Int), iA (IntKind.i64.wrap ((↑n : Int) - (↑st : Int))), cmS] (arrD D) (.ret (.tup []) (arrD D1)) :: cloHs (arrD D) :: (decide ((↑m : Int) < IntKind.i64.wrap ((↑n : Int) - (↑st : Int))) = true) :: (d4 (decide ((↑st : Int) < (↑m : Int)) = true) [LZ W [100000] 96 4 (Ssy4 D a m b mid n i j p) (.exit 8) { t := [(0, .gs 100000 0 D.length), (1, iA (↑a : Int)), (2, iA (↑m : Int)), (3, iA (↑b : Int)), (4, cmS), (18, iA (↑mid : Int)), (19, iA (↑n : Int)), (20, iA (↑st : Int))], h := arrD D }, MatchK [100000] [] [] { t := [(0, .gs 100000 0 D.length), (1, iA (↑a : Int)), (2, iA (↑m : Int)), (3, iA (↑b : Int)), (4, cmS), (18, iA (IntKind.i64.wrap ((IntKind.u64.wrap (IntKind.i64.wrap ((↑a : Int) + (↑b : Int)))).fdiv 2))), (19, iA (IntKind.i64.wrap (IntKind.i64.wrap ((IntKind.u64.wrap (IntKind.i64.wrap ((↑a : Int) + (↑b : Int)))).fdiv 2) + (↑m : Int)))), (20, iA (↑a : Int)), (21, iA (↑m : Int)), (22, iA (IntKind.i64.wrap (IntKind.i64.wrap (IntKind.i64.wrap ((IntKind.u64.wrap (IntKind.i64.wrap ((↑a : Int) + (↑b : Int)))).fdiv 2) + (↑m : Int)) - 1)))], h := (arrD D) } { t := [(0, .gs 100000 0 D.length), (1, iA (↑a : Int)), (2, iA (↑m : Int)), (3, iA (↑b : Int)), (4, cmS), (18, iA (↑mid : Int)), (19, iA (↑n : Int)), (20, iA (↑i : Int)), (21, iA (↑j : Int)), (22, iA (↑p : Int))], h := (arrD D) }, decide (IntKind.i64.wrap ((IntKind.u64.wrap (IntKind.i64.wrap ((↑a : Int) + (↑b : Int)))).fdiv 2) < (↑m : Int)) = false, decide (IntKind.i64.wrap ((↑b : Int) - (↑m : Int)) = 1) = false, decide (IntKind.i64.wrap ((↑m : Int) - (↑a : Int)) = 1) = false]))))) := by kernel_rfl
theorem symHTTFF_0 (W : World) (D D1 : List Doc) (a b n i j m p mid st : Nat) : sF W { lp := true, ol := true, fin := 9, tl := [108, 96] } 96 [.gs 100000 0 D.length, iA a, iA m, iA b, cmS] (arrD D) 100001 [bf, bf, aE 1, bf, ee, .loopM [] [] (Ssy4 D a m b mid n i j p) (.exit 8) { t := [(0, .gs 100000 0 D.length), (1, iA (↑a : Int)), (2, iA (↑m : Int)), (3, iA (↑b : Int)), (4, cmS), (18, iA (↑mid : Int)), (19, iA (↑n : Int)), (20, iA (↑st : Int))], h := arrD D }, bt, bt, bt, bt, bt, .lg, ee, cR (.tup []) (arrD D1), bf, bf, bf, bf, aE 1, bt, bt, bt, bt, bf, ee, .fin [] [] (.tup []) (arrD D1), ee] [] = .ok (.ret (.tup []) (arrD D1), [ee], MatchK [100000] [] [] { t := [(0, .tup [])], h := (arrD D1) } { t := [(0, .tup [])], h := (arrD D1) } :: (decide (IntKind.i64.wrap ((↑n : Int) - (↑st : Int)) < (↑b : Int)) = false) :: (d4 (decide ((↑mid : Int) < IntKind.i64.wrap ((↑n : Int) - (↑st : Int))) = true) (d4 (decide ((↑a : Int) < (↑st : Int)) = false) (MZ W 108 [.gs 100000 0 D.length, iA (↑st : Int), iA (↑m : Int), iA (IntKind.i64.wrap ((↑n : Int) - (↑st : Int))), cmS] (arrD D) (.ret (.tup []) (arrD D1)) :: cloHs (arrD D) :: (decide ((↑m : Int) < IntKind.i64.wrap ((↑n : Int) - (↑st : Int))) = true) :: (d4 (decide ((↑st : Int) < (↑m : Int)) = true) [LZ W [100000] 96 4 (Ssy4 D a m b mid n i j p) (.exit 8) { t := [(0, .gs 100000 0 D.length), (1, iA (↑a : Int)), (2, iA (↑m : Int)), (3, iA (↑b : Int)), (4, cmS), (18, iA (↑mid : Int)), (19, iA (↑n : Int)), (20, iA (↑st : Int))], h := arrD D }, MatchK [100000] [] [] { t := [(0, .gs 100000 0 D.length), (1, iA (↑a : Int)), (2, iA (↑m : Int)), (3, iA (↑b : Int)), (4, cmS), (18, iA (IntKind.i64.wrap ((IntKind.u64.wrap (IntKind.i64.wrap ((↑a : Int) + (↑b : Int)))).fdiv 2))), (19, iA (IntKind.i64.wrap (IntKind.i64.wrap ((IntKind.u64.wrap (IntKind.i64.wrap ((↑a : Int) + (↑b : Int)))).fdiv 2) + (↑m : Int)))), (20, iA (↑a : Int)), (21, iA (↑m : Int)), (22, iA (IntKind.i64.wrap (IntKind.i64.wrap (IntKind.i64.wrap ((IntKind.u64.wrap (IntKind.i64.wrap ((↑a : Int) + (↑b : Int)))).fdiv 2) + (↑m : Int)) - 1)))], h := (arrD D) } { t := [(0, .gs 100000 0 D.length), (1, iA (↑a : Int)), (2, iA (↑m : Int)), (3, iA (↑b : Int)), (4, cmS), (18, iA (↑mid : Int)), (19, iA (↑n : Int)), (20, iA (↑i : Int)), (21, iA (↑j : Int)), (22, iA (↑p : Int))], h := (arrD D) }, decide (IntKind.i64.wrap ((IntKind.u64.wrap (IntKind.i64.wrap ((↑a : Int) + (↑b : Int)))).fdiv 2) < (↑m : Int)) = false, decide (IntKind.i64.wrap ((↑b : Int) - (↑m : Int)) = 1) = false, decide (IntKind.i64.wrap ((↑m : Int) - (↑a : Int)) = 1) = false]))))) := by kernel_rfl
theorem insI_0 (W : World) (D : List Doc) (a b i j : Nat) (z : Int) (x y : Doc) : sQ W { lp := true, ol := true, tl := [13] } 95 1 [100000] [0, 1, 2, 3, 8, 9] (Tins D a b i j) [bt, bt, bt, bt, .lg, bt, oS (docA x), bt, bt, bt, bt, .lg, bt, oS (docA y), bt, .lg, ee, cR (iA z) [], bt, bt, bt, .lg, oS (docA y), .lg, oS (docA x), .lg, oS (docA x), .lg, oS (docA y), ee] = .ok ((.normal, { t := [(0, .gs 100000 0 D.length), (1, iA (↑a : Int)), (2, iA (↑b : Int)), (3, cmS), (8, iA (↑i : Int)), (9, iA (IntKind.i64.wrap ((↑j : Int) - 1)))], h := [(100000, .arr 40 7 (((docsA D).set (0 + (↑j : Int).toNat) (docA y)).set (0 + (IntKind.i64.wrap ((↑j : Int) - 1)).toNat) (docA x)) .own)] }), [ee], (((docsA D).set (0 + (↑j : Int).toNat) (docA y))[0 + (IntKind.i64.wrap ((↑j : Int) - 1)).toNat]? = some (docA y)) :: (0 ≤ IntKind.i64.wrap ((↑j : Int) - 1) ∧ IntKind.i64.wrap ((↑j : Int) - 1) < (↑D.length : Int)) :: ((docsA D)[0 + (↑j : Int).toNat]? = some (docA x)) :: (0 ≤ (↑j : Int) ∧ (↑j : Int) < (↑D.length : Int)) :: ((docsA D)[0 + (↑j : Int).toNat]? = some (docA x)) :: (0 ≤ (↑j : Int) ∧ (↑j : Int) < (↑D.length : Int)) :: ((docsA D)[0 + (IntKind.i64.wrap ((↑j : Int) - 1)).toNat]? = some (docA y)) :: (0 ≤ IntKind.i64.wrap ((↑j : Int) - 1) ∧ IntKind.i64.wrap ((↑j : Int) - 1) < (↑D.length : Int)) :: (decide (z < 0) = true) :: (d2 (decide ((↑a : Int) < (↑j : Int)) = true) (MZ W 13 [.val (Value.pointer none), docA x, docA y] [] (.ret (iA z) []) :: cloHs [] :: (decide ((↑a : Int) < (↑j : Int)) = true) :: ((docsA D)[0 + (IntKind.i64.wrap ((↑j : Int) - 1)).toNat]? = some (docA y)) :: (decide ((↑a : Int) < (↑j : Int)) = true) :: (0 ≤ IntKind.i64.wrap ((↑j : Int) - 1) ∧ IntKind.i64.wrap ((↑j : Int) - 1) < (↑D.length : Int)) :: (d4 (decide ((↑a : Int) < (↑j : Int)) = true) (((docsA D)[0 + (↑j : Int).toNat]? = some (docA x)) :: (decide ((↑a : Int) < (↑j : Int)) = true) :: (0 ≤ (↑j : Int) ∧ (↑j : Int) < (↑D.length : Int)) :: (d4 (decide ((↑a : Int) < (↑j : Int)) = true) [])))))) := by
  obtain ⟨ix, vx, ⟨hx, lx⟩⟩ := x; obtain ⟨iy, vy, ⟨hy, ly⟩⟩ := y; (show _ = _; kernel_rfl)
theorem insI_1 (W : World) (D : List Doc) (a b i j : Nat) (z : Int) (x y : Doc) : sQ W { lp := true, ol := true, tl := [13] } 95 1 [100000] [0, 1, 2, 3, 8, 9] (Tins D a b i j) [bt, bt, bt, bt, .lg, bt, oS (docA x), bt, bt, bt, bt, .lg, bt, oS (docA y), bt, .lg, ee, cR (iA z) [], bt, bt, bf, ee] = .ok ((.exit 2, { t := [(0, .gs 100000 0 D.length), (1, iA (↑a : Int)), (2, iA (↑b : Int)), (3, cmS), (8, iA (↑i : Int)), (9, iA (↑j : Int))], h := (arrD D) }), [ee], (decide (z < 0) = false) :: (d2 (decide ((↑a : Int) < (↑j : Int)) = true) (MZ W 13 [.val (Value.pointer none), docA x, docA y] [] (.ret (iA z) []) :: cloHs [] :: (decide ((↑a : Int) < (↑j : Int)) = true) :: ((docsA D)[0 + (IntKind.i64.wrap ((↑j : Int) - 1)).toNat]? = some (docA y)) :: (decide ((↑a : Int) < (↑j : Int)) = true) :: (0 ≤ IntKind.i64.wrap ((↑j : Int) - 1) ∧ IntKind.i64.wrap ((↑j : Int) - 1) < (↑D.length : Int)) :: (d4 (decide ((↑a : Int) < (↑j : Int)) = true) (((docsA D)[0 + (↑j : Int).toNat]? = some (docA x)) :: (decide ((↑a : Int) < (↑j : Int)) = true) :: (0 ≤ (↑j : Int) ∧ (↑j : Int) < (↑D.length : Int)) :: (d4 (decide ((↑a : Int) < (↑j : Int)) = true) [])))))) := by
  obtain ⟨ix, vx, ⟨hx, lx⟩⟩ := x; obtain ⟨iy, vy, ⟨hy, ly⟩⟩ := y; (show _ = _; kernel_rfl)
theorem insI_2 (W : World) (D : List Doc) (a b i j : Nat) : sQ W { lp := true, ol := true, tl := [13] } 95 1 [100000] [0, 1, 2, 3, 8, 9] (Tins D a b i j) [bf, bf, bf, bf, bf, bf, bf, bf, bf, bf, bf, bf, bf, ee] = .ok ((.exit 2, { t := [(0, .gs 100000 0 D.length), (1, iA (↑a : Int)), (2, iA (↑b : Int)), (3, cmS), (8, iA (↑i : Int)), (9, iA (↑j : Int))], h := (arrD D) }), [aE 9999999], (decide ((↑a : Int) < (↑j : Int)) = false) :: (d6 (decide ((↑a : Int) < (↑j : Int)) = false) (d6 (decide ((↑a : Int) < (↑j : Int)) = false) []))) := by kernel_rfl
theorem insO_0 (W : World) (D D2 : List Doc) (a b i : Nat) : sQ W { lp := true, ol := true, tl := [] } 95 0 [100000] [0, 1, 2, 3, 8] (Sins D a b i) [bt, ee, .loopM [] [] (Tins D a b i i) (.exit 2) (Sins D2 a b i), ee] = .ok ((.normal, { t := [(0, .gs 100000 0 D2.length), (1, iA (↑a : Int)), (2, iA (↑b : Int)), (3, cmS), (8, iA (IntKind.i64.wrap ((↑i : Int) + 1)))], h := (arrD D2) }), [ee], [LZ W [100000] 95 1 (Tins D a b i i) (.exit 2) (Sins D2 a b i), MatchK [100000] [] [] { t := [(0, .gs 100000 0 D.length), (1, iA (↑a : Int)), (2, iA (↑b : Int)), (3, cmS), (8, iA (↑i : Int)), (9, iA (↑i : Int))], h := (arrD D) } (Tins D a b i i), decide ((↑i : Int) < (↑b : Int)) = true]) := by kernel_rfl
theorem insO_1 (W : World) (D : List Doc) (a b i : Nat) : sQ W { lp := true, ol := true, tl := [] } 95 0 [100000] [0, 1, 2, 3, 8] (Sins D a b i) [bf, ee] = .ok ((.exit 0, { t := [(0, .gs 100000 0 D.length), (1, iA (↑a : Int)), (2, iA (↑b : Int)), (3, cmS), (8, iA (↑i : Int))], h := (arrD D) }), [ee], [decide ((↑i : Int) < (↑b : Int)) = false]) := by kernel_rfl
theorem swpI_0 (W : World) (D : List Doc) (a b n i : Nat) (x y : Doc) : sQ W { lp := true, ol := true, tl := [] } 121 0 [100000] [0, 1, 2, 3, 10] (Sswp D a b n i) [bt, .lg, oS (docA y), .lg, oS (docA x), .lg, oS (docA x), .lg, oS (docA y), ee] = .ok ((.normal, { t := [(0, .gs 100000 0 D.length), (1, iA (↑a : Int)), (2, iA (↑b : Int)), (3, iA (↑n : Int)), (10, iA (IntKind.i64.wrap ((↑i : Int) + 1)))], h := [(100000, .arr 40 7 (((docsA D).set (0 + (IntKind.i64.wrap ((↑a : Int) + (↑i : Int))).toNat) (docA y)).set (0 + (IntKind.i64.wrap ((↑b : Int) + (↑i : Int))).toNat) (docA x)) .own)] }), [ee], [((docsA D).set (0 + (IntKind.i64.wrap ((↑a : Int) + (↑i : Int))).toNat) (docA y))[0 + (IntKind.i64.wrap ((↑b : Int) + (↑i : Int))).toNat]? = some (docA y), 0 ≤ IntKind.i64.wrap ((↑b : Int) + (↑i : Int)) ∧ IntKind.i64.wrap ((↑b : Int) + (↑i : Int)) < (↑D.length : Int), (docsA D)[0 + (IntKind.i64.wrap ((↑a : Int) + (↑i : Int))).toNat]? = some (docA x), 0 ≤ IntKind.i64.wrap ((↑a : Int) + (↑i : Int)) ∧ IntKind.i64.wrap ((↑a : Int) + (↑i : Int)) < (↑D.length : Int), (docsA D)[0 + (IntKind.i64.wrap ((↑a : Int) + (↑i : Int))).toNat]? = some (docA x), 0 ≤ IntKind.i64.wrap ((↑a : Int) + (↑i : Int)) ∧ IntKind.i64.wrap ((↑a : Int) + (↑i : Int)) < (↑D.length : Int), (docsA D)[0 + (IntKind.i64.wrap ((↑b : Int) + (↑i : Int))).toNat]? = some (docA y), 0 ≤ IntKind.i64.wrap ((↑b : Int) + (↑i : Int)) ∧ IntKind.i64.wrap ((↑b : Int) + (↑i : Int)) < (↑D.length : Int), decide ((↑i : Int) < (↑n : Int)) = true]) := by
  obtain ⟨ix, vx, ⟨hx, lx⟩⟩ := x; obtain ⟨iy, vy, ⟨hy, ly⟩⟩ := y; (show _ = _; kernel_rfl)
theorem swpI_1 (W : World) (D : List Doc) (a b n i : Nat) : sQ W { lp := true, ol := true, tl := [] } 121 0 [100000] [0, 1, 2, 3, 10] (Sswp D a b n i) [bf, ee] = .ok ((.exit 0, { t := [(0, .gs 100000 0 D.length), (1, iA (↑a : Int)), (2, iA (↑b : Int)), (3, iA (↑n : Int)), (10, iA (↑i : Int))], h := (arrD D) }), [ee], [decide ((↑i : Int) < (↑n : Int)) = false]) := by kernel_rfl
theorem rotI_0 (W : World) (D D2 : List Doc) (i j m : Nat) : sQ W { lp := true, ol := true, tl := [121] } 108 0 [100000] [0, 2, 4, 10, 11] (Srot D m i j) [bt, bt, .lg, ee, cR (.tup []) (arrD D2), ee] = .ok ((.normal, { t := [(0, .gs 100000 0 D.length), (2, iA (↑m : Int)), (4, cmS), (10, iA (IntKind.i64.wrap ((↑i : Int) - (↑j : Int)))), (11, iA (↑j : Int))], h := (arrD D2) }), [ee], [MZ W 121 [.gs 100000 0 D.length, iA (IntKind.i64.wrap ((↑m : Int) - (↑i : Int))), iA (↑m : Int), iA (↑j : Int), cmS] (arrD D) (.ret (.tup []) (arrD D2)), cloHs (arrD D), decide ((↑j : Int) < (↑i : Int)) = true, (!decide ((↑i : Int) = (↑j : Int))) = true]) := by kernel_rfl
theorem rotI_1 (W : World) (D D2 : List Doc) (i j m : Nat) : sQ W { lp := true, ol := true, tl := [121] } 108 0 [100000] [0, 2, 4, 10, 11] (Srot D m i j) [bt, bf, .lg, ee, cR (.tup []) (arrD D2), ee] = .ok ((.normal, { t := [(0, .gs 100000 0 D.length), (2, iA (↑m : Int)), (4, cmS), (10, iA (↑i : Int)), (11, iA (IntKind.i64.wrap ((↑j : Int) - (↑i : Int))))], h := (arrD D2) }), [ee], [MZ W 121 [.gs 100000 0 D.length, iA (IntKind.i64.wrap ((↑m : Int) - (↑i : Int))), iA (IntKind.i64.wrap (IntKind.i64.wrap ((↑m : Int) + (↑j : Int)) - (↑i : Int))), iA (↑i : Int), cmS] (arrD D) (.ret (.tup []) (arrD D2)), cloHs (arrD D), decide ((↑j : Int) < (↑i : Int)) = false, (!decide ((↑i : Int) = (↑j : Int))) = true]) := by kernel_rfl
theorem rotI_2 (W : World) (D : List Doc) (i j m : Nat) : sQ W { lp := true, ol := true, tl := [121] } 108 0 [100000] [0, 2, 4, 10, 11] (Srot D m i j) [bf, ee] = .ok ((.exit 0, { t := [(0, .gs 100000 0 D.length), (2, iA (↑m : Int)), (4, cmS), (10, iA (↑i : Int)), (11, iA (↑j : Int))], h := (arrD D) }), [ee], [(!decide ((↑i : Int) = (↑j : Int))) = false]) := by kernel_rfl
theorem sy0_0 (W : World) (D : List Doc) (a i j : Nat) (z : Int) (x y : Doc) : sQ W { lp := true, ol := true, tl := [13] } 96 0 [100000] [0, 1, 4, 10, 11] (Ssy0 D a i j) [bt, aE 1, .lg, oS (docA x), .lg, oS (docA y), .lg, ee, cR (iA z) [], bt, ee] = .ok ((.normal, { t := [(0, .gs 100000 0 D.length), (1, iA (↑a : Int)), (4, cmS), (10, iA (IntKind.i64.wrap (IntKind.i64.wrap ((IntKind.u64.wrap (IntKind.i64.wrap ((↑i : Int) + (↑j : Int)))).fdiv 2) + 1))), (11, iA (↑j : Int))], h := (arrD D) }), [ee], [decide (z < 0) = true, MZ W 13 [.val (Value.pointer none), docA x, docA y] [] (.ret (iA z) []), cloHs [], (docsA D)[0 + (↑a : Int).toNat]? = some (docA y), 0 ≤ (↑a : Int) ∧ (↑a : Int) < (↑D.length : Int), (docsA D)[0 + (IntKind.i64.wrap ((IntKind.u64.wrap (IntKind.i64.wrap ((↑i : Int) + (↑j : Int)))).fdiv 2)).toNat]? = some (docA x), 0 ≤ IntKind.i64.wrap ((IntKind.u64.wrap (IntKind.i64.wrap ((↑i : Int) + (↑j : Int)))).fdiv 2) ∧ IntKind.i64.wrap ((IntKind.u64.wrap (IntKind.i64.wrap ((↑i : Int) + (↑j : Int)))).fdiv 2) < (↑D.length : Int), decide ((↑i : Int) < (↑j : Int)) = true]) := by
  obtain ⟨ix, vx, ⟨hx, lx⟩⟩ := x; obtain ⟨iy, vy, ⟨hy, ly⟩⟩ := y; (show _ = _; kernel_rfl)
theorem sy0_1 (W : World) (D : List Doc) (a i j : Nat) (z : Int) (x y : Doc) : sQ W { lp := true, ol := true, tl := [13] } 96 0 [100000] [0, 1, 4, 10, 11] (Ssy0 D a i j) [bt, aE 1, .lg, oS (docA x), .lg, oS (docA y), .lg, ee, cR (iA z) [], bf, ee] = .ok ((.normal, { t := [(0, .gs 100000 0 D.length), (1, iA (↑a : Int)), (4, cmS), (10, iA (↑i : Int)), (11, iA (IntKind.i64.wrap ((IntKind.u64.wrap (IntKind.i64.wrap ((↑i : Int) + (↑j : Int)))).fdiv 2)))], h := (arrD D) }), [ee], [decide (z < 0) = false, MZ W 13 [.val (Value.pointer none), docA x, docA y] [] (.ret (iA z) []), cloHs [], (docsA D)[0 + (↑a : Int).toNat]? = some (docA y), 0 ≤ (↑a : Int) ∧ (↑a : Int) < (↑D.length : Int), (docsA D)[0 + (IntKind.i64.wrap ((IntKind.u64.wrap (IntKind.i64.wrap ((↑i : Int) + (↑j : Int)))).fdiv 2)).toNat]? = some (docA x), 0 ≤ IntKind.i64.wrap ((IntKind.u64.wrap (IntKind.i64.wrap ((↑i : Int) + (↑j : Int)))).fdiv 2) ∧ IntKind.i64.wrap ((IntKind.u64.wrap (IntKind.i64.wrap ((↑i : Int) + (↑j : Int)))).fdiv 2) < (↑D.length : Int), decide ((↑i : Int) < (↑j : Int)) = true]) := by
  obtain ⟨ix, vx, ⟨hx, lx⟩⟩ := x; obtain ⟨iy, vy, ⟨hy, ly⟩⟩ := y; (show _ = _; kernel_rfl)
theorem sy0_2 (W : World) (D : List Doc) (a i j : Nat) : sQ W { lp := true, ol := true, tl := [13] } 96 0 [100000] [0, 1, 4, 10, 11] (Ssy0 D a i j) [bf, ee] = .ok ((.exit 0, { t := [(0, .gs 100000 0 D.length), (1, iA (↑a : Int)), (4, cmS), (10, iA (↑i : Int)), (11, iA (↑j : Int))], h := (arrD D) }), [ee], [decide ((↑i : Int) < (↑j : Int)) = false]) := by kernel_rfl
theorem sy1_0 (W : World) (D : List Doc) (k : Nat) (z : Int) (x y : Doc) : sQ W { lp := true, ol := true, tl := [] } 96 1 [100000] [0, 10, 13] (Ssy1 D z k) [bt, .lg, oS (docA y), .lg, oS (docA x), .lg, oS (docA x), .lg, oS (docA y), ee] = .ok ((.normal, { t := [(0, .gs 100000 0 D.length), (10, iA z), (13, iA (IntKind.i64.wrap ((↑k : Int) + 1)))], h := [(100000, .arr 40 7 (((docsA D).set (0 + (↑k : Int).toNat) (docA y)).set (0 + (IntKind.i64.wrap ((↑k : Int) + 1)).toNat) (docA x)) .own)] }), [ee], [((docsA D).set (0 + (↑k : Int).toNat) (docA y))[0 + (IntKind.i64.wrap ((↑k : Int) + 1)).toNat]? = some (docA y), 0 ≤ IntKind.i64.wrap ((↑k : Int) + 1) ∧ IntKind.i64.wrap ((↑k : Int) + 1) < (↑D.length : Int), (docsA D)[0 + (↑k : Int).toNat]? = some (docA x), 0 ≤ (↑k : Int) ∧ (↑k : Int) < (↑D.length : Int), (docsA D)[0 + (↑k : Int).toNat]? = some (docA x), 0 ≤ (↑k : Int) ∧ (↑k : Int) < (↑D.length : Int), (docsA D)[0 + (IntKind.i64.wrap ((↑k : Int) + 1)).toNat]? = some (docA y), 0 ≤ IntKind.i64.wrap ((↑k : Int) + 1) ∧ IntKind.i64.wrap ((↑k : Int) + 1) < (↑D.length : Int), decide ((↑k : Int) < IntKind.i64.wrap (z - 1)) = true]) := by
  obtain ⟨ix, vx, ⟨hx, lx⟩⟩ := x; obtain ⟨iy, vy, ⟨hy, ly⟩⟩ := y; (show _ = _; kernel_rfl)
theorem sy1_1 (W : World) (D : List Doc) (k : Nat) (z : Int) : sQ W { lp := true, ol := true, tl := [] } 96 1 [100000] [0, 10, 13] (Ssy1 D z k) [bf, ee] = .ok ((.exit 2, { t := [(0, .gs 100000 0 D.length), (10, iA z), (13, iA (↑k : Int))], h := (arrD D) }), [ee], [decide ((↑k : Int) < IntKind.i64.wrap (z - 1)) = false]) := by kernel_rfl
theorem sy2_0 (W : World) (D : List Doc) (i j m : Nat) (z : Int) (x y : Doc) : sQ W { lp := true, ol := true, tl := [13] } 96 2 [100000] [0, 2, 4, 14, 15] (Ssy2 D m i j) [bt, aE 1, .lg, oS (docA x), .lg, oS (docA y), .lg, ee, cR (iA z) [], bt, ee] = .ok ((.normal, { t := [(0, .gs 100000 0 D.length), (2, iA (↑m : Int)), (4, cmS), (14, iA (IntKind.i64.wrap (IntKind.i64.wrap ((IntKind.u64.wrap (IntKind.i64.wrap ((↑i : Int) + (↑j : Int)))).fdiv 2) + 1))), (15, iA (↑j : Int))], h := (arrD D) }), [ee], [(!decide (z < 0)) = true, MZ W 13 [.val (Value.pointer none), docA x, docA y] [] (.ret (iA z) []), cloHs [], (docsA D)[0 + (IntKind.i64.wrap ((IntKind.u64.wrap (IntKind.i64.wrap ((↑i : Int) + (↑j : Int)))).fdiv 2)).toNat]? = some (docA y), 0 ≤ IntKind.i64.wrap ((IntKind.u64.wrap (IntKind.i64.wrap ((↑i : Int) + (↑j : Int)))).fdiv 2) ∧ IntKind.i64.wrap ((IntKind.u64.wrap (IntKind.i64.wrap ((↑i : Int) + (↑j : Int)))).fdiv 2) < (↑D.length : Int), (docsA D)[0 + (↑m : Int).toNat]? = some (docA x), 0 ≤ (↑m : Int) ∧ (↑m : Int) < (↑D.length : Int), decide ((↑i : Int) < (↑j : Int)) = true]) := by
  obtain ⟨ix, vx, ⟨hx, lx⟩⟩ := x; obtain ⟨iy, vy, ⟨hy, ly⟩⟩ := y; (show _ = _; kernel_rfl)
theorem sy2_1 (W : World) (D : List Doc) (i j m : Nat) (z : Int) (x y : Doc) : sQ W { lp := true, ol := true, tl := [13] } 96 2 [100000] [0, 2, 4, 14, 15] (Ssy2 D m i j) [bt, aE 1, .lg, oS (docA x), .lg, oS (docA y), .lg, ee, cR (iA z) [], bf, ee] = .ok ((.normal, { t := [(0, .gs 100000 0 D.length), (2, iA (↑m : Int)), (4, cmS), (14, iA (↑i : Int)), (15, iA (IntKind.i64.wrap ((IntKind.u64.wrap (IntKind.i64.wrap ((↑i : Int) + (↑j : Int)))).fdiv 2)))], h := (arrD D) }), [ee], [(!decide (z < 0)) = false, MZ W 13 [.val (Value.pointer none), docA x, docA y] [] (.ret (iA z) []), cloHs [], (docsA D)[0 + (IntKind.i64.wrap ((IntKind.u64.wrap (IntKind.i64.wrap ((↑i : Int) + (↑j : Int)))).fdiv 2)).toNat]? = some (docA y), 0 ≤ IntKind.i64.wrap ((IntKind.u64.wrap (IntKind.i64.wrap ((↑i : Int) + (↑j : Int)))).fdiv 2) ∧ IntKind.i64.wrap ((IntKind.u64.wrap (IntKind.i64.wrap ((↑i : Int) + (↑j : Int)))).fdiv 2) < (↑D.length : Int), (docsA D)[0 + (↑m : Int).toNat]? = some (docA x), 0 ≤ (↑m : Int) ∧ (↑m : Int) < (↑D.length : Int), decide ((↑i : Int) < (↑j : Int)) = true]) := by
  obtain ⟨ix, vx, ⟨hx, lx⟩⟩ := x; obtain ⟨iy, vy, ⟨hy, ly⟩⟩ := y; (show _ = _; kernel_rfl)
theorem sy2_2 (W : World) (D : List Doc) (i j m : Nat) : sQ W { lp := true, ol := true, tl := [13] } 96 2 [100000] [0, 2, 4, 14, 15] (Ssy2 D m i j) [bf, ee] = .ok ((.exit 4, { t := [(0, .gs 100000 0 D.length), (2, iA (↑m : Int)), (4, cmS), (14, iA (↑i : Int)), (15, iA (↑j : Int))], h := (arrD D) }), [ee], [decide ((↑i : Int) < (↑j : Int)) = false]) := by kernel_rfl
theorem sy3_0 (W : World) (D : List Doc) (i k : Nat) (x y : Doc) : sQ W { lp := true, ol := true, tl := [] } 96 3 [100000] [0, 14, 17] (Ssy3 D i k) [bt, .lg, oS (docA y), .lg, oS (docA x), .lg, oS (docA x), .lg, oS (docA y), ee] = .ok ((.normal, { t := [(0, .gs 100000 0 D.length), (14, iA (↑i : Int)), (17, iA (IntKind.i64.wrap ((↑k : Int) - 1)))], h := [(100000, .arr 40 7 (((docsA D).set (0 + (↑k : Int).toNat) (docA y)).set (0 + (IntKind.i64.wrap ((↑k : Int) - 1)).toNat) (docA x)) .own)] }), [ee], [((docsA D).set (0 + (↑k : Int).toNat) (docA y))[0 + (IntKind.i64.wrap ((↑k : Int) - 1)).toNat]? = some (docA y), 0 ≤ IntKind.i64.wrap ((↑k : Int) - 1) ∧ IntKind.i64.wrap ((↑k : Int) - 1) < (↑D.length : Int), (docsA D)[0 + (↑k : Int).toNat]? = some (docA x), 0 ≤ (↑k : Int) ∧ (↑k : Int) < (↑D.length : Int), (docsA D)[0 + (↑k : Int).toNat]? = some (docA x), 0 ≤ (↑k : Int) ∧ (↑k : Int) < (↑D.length : Int), (docsA D)[0 + (IntKind.i64.wrap ((↑k : Int) - 1)).toNat]? = some (docA y), 0 ≤ IntKind.i64.wrap ((↑k : Int) - 1) ∧ IntKind.i64.wrap ((↑k : Int) - 1) < (↑D.length : Int), decide ((↑i : Int) < (↑k : Int)) = true]) := by
  obtain ⟨ix, vx, ⟨hx, lx⟩⟩ := x; obtain ⟨iy, vy, ⟨hy, ly⟩⟩ := y; (show _ = _; kernel_rfl)
theorem sy3_1 (W : World) (D : List Doc) (i k : Nat) : sQ W { lp := true, ol := true, tl := [] } 96 3 [100000] [0, 14, 17] (Ssy3 D i k) [bf, ee] = .ok ((.exit 6, { t := [(0, .gs 100000 0 D.length), (14, iA (↑i : Int)), (17, iA (↑k : Int))], h := (arrD D) }), [ee], [decide ((↑i : Int) < (↑k : Int)) = false]) := by kernel_rfl
theorem sy4_0 (W : World) (D : List Doc) (a b n i j m p mid : Nat) (z : Int) (x y : Doc) : sQ W { lp := true, ol := true, tl := [13] } 96 4 [100000] [0, 1, 2, 3, 4, 18, 19, 20, 21, 22] (Ssy4 D a m b mid n i j p) [bt, aE 1, .lg, oS (docA x), .lg, oS (docA y), .lg, ee, cR (iA z) [], bt, ee] = .ok ((.normal, { t := [(0, .gs 100000 0 D.length), (1, iA (↑a : Int)), (2, iA (↑m : Int)), (3, iA (↑b : Int)), (4, cmS), (18, iA (↑mid : Int)), (19, iA (↑n : Int)), (20, iA (IntKind.i64.wrap (IntKind.i64.wrap ((IntKind.u64.wrap (IntKind.i64.wrap ((↑i : Int) + (↑j : Int)))).fdiv 2) + 1))), (21, iA (↑j : Int)), (22, iA (↑p : Int))], h := (arrD D) }), [ee], [(!decide (z < 0)) = true, MZ W 13 [.val (Value.pointer none), docA x, docA y] [] (.ret (iA z) []), cloHs [], (docsA D)[0 + (IntKind.i64.wrap ((IntKind.u64.wrap (IntKind.i64.wrap ((↑i : Int) + (↑j : Int)))).fdiv 2)).toNat]? = some (docA y), 0 ≤ IntKind.i64.wrap ((IntKind.u64.wrap (IntKind.i64.wrap ((↑i : Int) + (↑j : Int)))).fdiv 2) ∧ IntKind.i64.wrap ((IntKind.u64.wrap (IntKind.i64.wrap ((↑i : Int) + (↑j : Int)))).fdiv 2) < (↑D.length : Int), (docsA D)[0 + (IntKind.i64.wrap ((↑p : Int) - IntKind.i64.wrap ((IntKind.u64.wrap (IntKind.i64.wrap ((↑i : Int) + (↑j : Int)))).fdiv 2))).toNat]? = some (docA x), 0 ≤ IntKind.i64.wrap ((↑p : Int) - IntKind.i64.wrap ((IntKind.u64.wrap (IntKind.i64.wrap ((↑i : Int) + (↑j : Int)))).fdiv 2)) ∧ IntKind.i64.wrap ((↑p : Int) - IntKind.i64.wrap ((IntKind.u64.wrap (IntKind.i64.wrap ((↑i : Int) + (↑j : Int)))).fdiv 2)) < (↑D.length : Int), decide ((↑i : Int) < (↑j : Int)) = true]) := by
  obtain ⟨ix, vx, ⟨hx, lx⟩⟩ := x; obtain ⟨iy, vy, ⟨hy, ly⟩⟩ := y; (show _ = _; kernel_rfl)
theorem sy4_1 (W : World) (D : List Doc) (a b n i j m p mid : Nat) (z : Int) (x y : Doc) : sQ W { lp := true, ol := true, tl := [13] } 96 4 [100000] [0, 1, 2, 3, 4, 18, 19, 20, 21, 22] (Ssy4 D a m b mid n i j p) [bt, aE 1, .lg, oS (docA x), .lg, oS (docA y), .lg, ee, cR (iA z) [], bf, ee] = .ok ((.normal, { t := [(0, .gs 100000 0 D.length), (1, iA (↑a : Int)), (2, iA (↑m : Int)), (3, iA (↑b : Int)), (4, cmS), (18, iA (↑mid : Int)), (19, iA (↑n : Int)), (20, iA (↑i : Int)), (21, iA (IntKind.i64.wrap ((IntKind.u64.wrap (IntKind.i64.wrap ((↑i : Int) + (↑j : Int)))).fdiv 2))), (22, iA (↑p : Int))], h := (arrD D) }), [ee], [(!decide (z < 0)) = false, MZ W 13 [.val (Value.pointer none), docA x, docA y] [] (.ret (iA z) []), cloHs [], (docsA D)[0 + (IntKind.i64.wrap ((IntKind.u64.wrap (IntKind.i64.wrap ((↑i : Int) + (↑j : Int)))).fdiv 2)).toNat]? = some (docA y), 0 ≤ IntKind.i64.wrap ((IntKind.u64.wrap (IntKind.i64.wrap ((↑i : Int) + (↑j : Int)))).fdiv 2) ∧ IntKind.i64.wrap ((IntKind.u64.wrap (IntKind.i64.wrap ((↑i : Int) + (↑j : Int)))).fdiv 2) < (↑D.length : Int), (docsA D)[0 + (IntKind.i64.wrap ((↑p : Int) - IntKind.i64.wrap ((IntKind.u64.wrap (IntKind.i64.wrap ((↑i : Int) + (↑j : Int)))).fdiv 2))).toNat]? = some (docA x), 0 ≤ IntKind.i64.wrap ((↑p : Int) - IntKind.i64.wrap ((IntKind.u64.wrap (IntKind.i64.wrap ((↑i : Int) + (↑j : Int)))).fdiv 2)) ∧ IntKind.i64.wrap ((↑p : Int) - IntKind.i64.wrap ((IntKind.u64.wrap (IntKind.i64.wrap ((↑i : Int) + (↑j : Int)))).fdiv 2)) < (↑D.length : Int), decide ((↑i : Int) < (↑j : Int)) = true]) := by
  obtain ⟨ix, vx, ⟨hx, lx⟩⟩ := x; obtain ⟨iy, vy, ⟨hy, ly⟩⟩ := y; (show _ = _; kernel_rfl)
theorem sy4_2 (W : World) (D : List Doc) (a b n i j m p mid : Nat) : sQ W { lp := true, ol := true, tl := [13] } 96 4 [100000] [0, 1, 2, 3, 4, 18, 19, 20, 21, 22] (Ssy4 D a m b mid n i j p) [bf, ee] = .ok ((.exit 8, { t := [(0, .gs 100000 0 D.length), (1, iA (↑a : Int)), (2, iA (↑m : Int)), (3, iA (↑b : Int)), (4, cmS), (18, iA (↑mid : Int)), (19, iA (↑n : Int)), (20, iA (↑i : Int)), (21, iA (↑j : Int)), (22, iA (↑p : Int))], h := (arrD D) }), [ee], [decide ((↑i : Int) < (↑j : Int)) = false]) := by kernel_rfl
theorem st0_0 (W : World) (D D2 : List Doc) (a b n bs : Nat) : sQ W { lp := true, ol := true, tl := [95] } 74 0 [100000] [0, 1, 2, 6, 7, 8] (Sst0 D n bs a b) [bt, .lg, ee, cR (.tup []) (arrD D2), ee] = .ok ((.normal, { t := [(0, .gs 100000 0 D.length), (1, iA (↑n : Int)), (2, cmS), (6, iA (↑bs : Int)), (7, iA (↑b : Int)), (8, iA (IntKind.i64.wrap ((↑b : Int) + (↑bs : Int))))], h := (arrD D2) }), [ee], [MZ W 95 [.gs 100000 0 D.length, iA (↑a : Int), iA (↑b : Int), cmS] (arrD D) (.ret (.tup []) (arrD D2)), cloHs (arrD D), decide ((↑b : Int) ≤ (↑n : Int)) = true]) := by kernel_rfl
theorem st0_1 (W : World) (D : List Doc) (a b n bs : Nat) : sQ W { lp := true, ol := true, tl := [95] } 74 0 [100000] [0, 1, 2, 6, 7, 8] (Sst0 D n bs a b) [bf, ee] = .ok ((.exit 0, { t := [(0, .gs 100000 0 D.length), (1, iA (↑n : Int)), (2, cmS), (6, iA (↑bs : Int)), (7, iA (↑a : Int)), (8, iA (↑b : Int))], h := (arrD D) }), [ee], [decide ((↑b : Int) ≤ (↑n : Int)) = false]) := by kernel_rfl
theorem st1_0 (W : World) (D D2 : List Doc) (a b n bs : Nat) : sQ W { lp := true, ol := true, tl := [96] } 74 2 [100000] [0, 1, 2, 6, 7, 8] (Sst0 D n bs a b) [bt, .lg, ee, cR (.tup []) (arrD D2), ee] = .ok ((.normal, { t := [(0, .gs 100000 0 D.length), (1, iA (↑n : Int)), (2, cmS), (6, iA (↑bs : Int)), (7, iA (↑b : Int)), (8, iA (IntKind.i64.wrap ((↑b : Int) + IntKind.i64.wrap (2 * (↑bs : Int)))))], h := (arrD D2) }), [ee], [MZ W 96 [.gs 100000 0 D.length, iA (↑a : Int), iA (IntKind.i64.wrap ((↑a : Int) + (↑bs : Int))), iA (↑b : Int), cmS] (arrD D) (.ret (.tup []) (arrD D2)), cloHs (arrD D), decide ((↑b : Int) ≤ (↑n : Int)) = true]) := by kernel_rfl
theorem st1_1 (W : World) (D : List Doc) (a b n bs : Nat) : sQ W { lp := true, ol := true, tl := [96] } 74 2 [100000] [0, 1, 2, 6, 7, 8] (Sst0 D n bs a b) [bf, ee] = .ok ((.exit 4, { t := [(0, .gs 100000 0 D.length), (1, iA (↑n : Int)), (2, cmS), (6, iA (↑bs : Int)), (7, iA (↑a : Int)), (8, iA (↑b : Int))], h := (arrD D) }), [ee], [decide ((↑b : Int) ≤ (↑n : Int)) = false]) := by kernel_rfl
theorem st2_0 (W : World) (D D1 D2 : List Doc) (a b n bs : Nat) : sQ W { lp := true, ol := true, tl := [96] } 74 1 [100000] [0, 1, 2, 6] (Sst1 D n bs) [bt, ee, .loopM [] [] (Sst0 D n bs 0 b) (.exit 4) { t := [(0, .gs 100000 0 D1.length), (1, iA (↑n : Int)), (2, cmS), (6, iA (↑bs : Int)), (7, iA (↑a : Int))], h := arrD D1 }, bt, .lg, ee, cR (.tup []) (arrD D2), ee] = .ok ((.normal, { t := [(0, .gs 100000 0 D1.length), (1, iA (↑n : Int)), (2, cmS), (6, iA (IntKind.i64.wrap ((↑bs : Int) * 2)))], h := (arrD D2) }), [ee], [MZ W 96 [.gs 100000 0 D1.length, iA (↑a : Int), iA (IntKind.i64.wrap ((↑a : Int) + (↑bs : Int))), iA (↑n : Int), cmS] (arrD D1) (.ret (.tup []) (arrD D2)), cloHs (arrD D1), decide (IntKind.i64.wrap ((↑a : Int) + (↑bs : Int)) < (↑n : Int)) = true, LZ W [100000] 74 2 (Sst0 D n bs 0 b) (.exit 4) { t := [(0, .gs 100000 0 D1.length), (1, iA (↑n : Int)), (2, cmS), (6, iA (↑bs : Int)), (7, iA (↑a : Int))], h := arrD D1 }, MatchK [100000] [] [] { t := [(0, .gs 100000 0 D.length), (1, iA (↑n : Int)), (2, cmS), (6, iA (↑bs : Int)), (7, iA 0), (8, iA (IntKind.i64.wrap (2 * (↑bs : Int))))], h := (arrD D) } (Sst0 D n bs 0 b), decide ((↑bs : Int) < (↑n : Int)) = true]) := by kernel_rfl
theorem st2_1 (W : World) (D D1 : List Doc) (a b n bs : Nat) : sQ W { lp := true, ol := true, tl := [96] } 74 1 [100000] [0, 1, 2, 6] (Sst1 D n bs) [bt, ee, .loopM [] [] (Sst0 D n bs 0 b) (.exit 4) { t := [(0, .gs 100000 0 D1.length), (1, iA (↑n : Int)), (2, cmS), (6, iA (↑bs : Int)), (7, iA (↑a : Int))], h := arrD D1 }, bf, ee] = .ok ((.normal, { t := [(0, .gs 100000 0 D1.length), (1, iA (↑n : Int)), (2, cmS), (6, iA (IntKind.i64.wrap ((↑bs : Int) * 2)))], h := (arrD D1) }), [ee], [decide (IntKind.i64.wrap ((↑a : Int) + (↑bs : Int)) < (↑n : Int)) = false, LZ W [100000] 74 2 (Sst0 D n bs 0 b) (.exit 4) { t := [(0, .gs 100000 0 D1.length), (1, iA (↑n : Int)), (2, cmS), (6, iA (↑bs : Int)), (7, iA (↑a : Int))], h := arrD D1 }, MatchK [100000] [] [] { t := [(0, .gs 100000 0 D.length), (1, iA (↑n : Int)), (2, cmS), (6, iA (↑bs : Int)), (7, iA 0), (8, iA (IntKind.i64.wrap (2 * (↑bs : Int))))], h := (arrD D) } (Sst0 D n bs 0 b), decide ((↑bs : Int) < (↑n : Int)) = true]) := by kernel_rfl
theorem st2_2 (W : World) (D : List Doc) (n bs : Nat) : sQ W { lp := true, ol := true, tl := [96] } 74 1 [100000] [0, 1, 2, 6] (Sst1 D n bs) [bf, ee] = .ok ((.exit 2, { t := [(0, .gs 100000 0 D.length), (1, iA (↑n : Int)), (2, cmS), (6, iA (↑bs : Int))], h := (arrD D) }), [ee], [decide ((↑bs : Int) < (↑n : Int)) = false]) := by kernel_rfl
theorem docs_clo : ∀ D : List Doc, cloL (docsA D) = true
  | [] => rfl
  | ⟨i, v, .mk h l⟩ :: D => by
    have := docs_clo D
    unfold docsA at this ⊢
    rw [List.map_cons, cloL, this]
    simp [docA, AV.clo, cloL, iA, cloL_str, encVs_clo]
theorem zlS {φ ph x y} (h : LeP φ ph x y := by first | exact .eq rfl rfl | exact .same (by rw [hws]; rfl) rfl | exact .same (by rw [hws2]; rfl) rfl | exact .same (by rw [hws3]; rfl) rfl | exact .eq (congrArg (AV.gs _ 0) hgl) rfl) : LeP φ ph x y := h
theorem ztS {p : Prop} (h : p := by and_intros <;> first | exact trivial | exact zlS) : p := h
theorem zhS {p : Prop} (h : p := by and_intros <;> first | exact trivial | exact gOK_eq rfl rfl rfl | exact gOK_arr rfl rfl rfl (docs_clo _) | exact gOK_arr rfl rfl hset (docs_clo _)) : p := h
theorem zvS {p : Prop} (h : p := by and_intros <;> first | rfl | exact trivial | exact allN_clo zb | exact allN_cloL (docs_clo _)) : p := h
theorem So_z1 {kp f ph σ σ'} (h : MatchK kp f ph σ σ' := by exact ⟨by rfl, (by simp only [arrD, Sins, Tins, Sswp, Srot, Ssy0, Ssy1, Ssy2, Ssy3, Ssy4, Sst0, Sst1, Est, tOK, List.map_cons, List.map_nil, and_true] <;> exact ztS), (by simp only [arrD, Sins, Tins, Sswp, Srot, Ssy0, Ssy1, Ssy2, Ssy3, Ssy4, Sst0, Sst1, Est, hOK, List.map_cons, List.map_nil, and_true] <;> exact zhS), (by simp only [arrD, Sins, Tins, Sswp, Srot, Ssy0, Ssy1, Ssy2, Ssy3, Ssy4, Sst0, Sst1, Est, liveT, List.map_cons, List.map_nil, and_true] <;> exact zvS), (by simp only [arrD, Sins, Tins, Sswp, Srot, Ssy0, Ssy1, Ssy2, Ssy3, Ssy4, Sst0, Sst1, Est, liveH, List.map_cons, List.map_nil, and_true] <;> exact zvS)⟩) : MatchK kp f ph σ σ' := h
theorem So_z2 {cs} (h : Holds cs := by simp only [Holds, cloHs, arrD, and_true] <;> and_intros <;> first | assumption | exact docs_clo _ | exact decide_eq_true (by omega) | exact decide_eq_false (by omega) | omega | exact trivial | (constructor <;> omega) | exact So_z1) : Holds cs := h
theorem docs_len (D : List Doc) : (docsA D).length = D.length := by unfold docsA; rw [List.length_map]
theorem docs_at {D : List Doc} {i : Nat} {x : Doc} (h : D[i]? = some x) : (docsA D)[0 + ((i : Nat) : Int).toNat]? = some (docA x) := by
  rw [Int.toNat_natCast, Nat.zero_add]; unfold docsA; rw [List.getElem?_map, h]; rfl
theorem docs_set (D : List Doc) (i : Nat) (x : Doc) : (docsA D).set (0 + ((i : Nat) : Int).toNat) (docA x) = docsA (D.set i x) := by
  rw [Int.toNat_natCast, Nat.zero_add]; unfold docsA; rw [List.map_set]
theorem docs_swap {D : List Doc} {i j : Nat} {x y : Doc} (hx : D[i]? = some x) (hy : D[j]? = some y) : ((docsA D).set (0 + ((i : Nat) : Int).toNat) (docA y)).set (0 + ((j : Nat) : Int).toNat) (docA x) = docsA (swapL D i j) := by
  rw [docs_set, docs_set]; unfold swapL; rw [hx, hy]
theorem docs_at2 {D : List Doc} {i j : Nat} {x y : Doc} (hx : D[i]? = some x) (hy : D[j]? = some y) : ((docsA D).set (0 + ((i : Nat) : Int).toNat) (docA y))[0 + ((j : Nat) : Int).toNat]? = some (docA y) := by
  rw [docs_set]
  refine docs_at ?_
  rw [List.getElem?_set]
  split
  · rename_i e; subst e; rw [if_pos (List.getElem?_eq_some_iff.1 hx).1]
  · exact hy
theorem wrapS {n m : Int} (h : n = m) (h1 : -(2 ^ 62) ≤ m) (h2 : m ≤ 2 ^ 62) : IntKind.i64.wrap n = m := by subst h; exact IntWalk.i64_in _ (by omega)
theorem midW {i j : Nat} (h : i + j ≤ 2 ^ 60) : IntKind.i64.wrap ((IntKind.u64.wrap (IntKind.i64.wrap ((i : Int) + (j : Int)))).fdiv 2) = (((i + j) / 2 : Nat) : Int) := by
  have h1 : IntKind.i64.wrap ((i : Int) + (j : Int)) = ((i + j : Nat) : Int) := wrapS (by omega) (by omega) (by omega)
  rw [h1]
  have h2 : IntKind.u64.wrap ((i + j : Nat) : Int) = ((i + j : Nat) : Int) := by
    exact IntWalk.u64_in _ (by omega)
  rw [h2]
  have h3 : Int.fdiv ((i + j : Nat) : Int) 2 = (((i + j) / 2 : Nat) : Int) := by
    rw [Int.fdiv_eq_ediv_of_nonneg _ (by omega)]; omega
  rw [h3]
  exact wrapS rfl (by omega) (by omega)
section
variable (W : World) {lt : Doc → Doc → Bool}
def CmpC (W : World) (lt : Doc → Doc → Bool) : Prop := ∀ x y : Doc, ∃ n : Int, MutC Tryz.prog W 13 [.val (.pointer none), docA x, docA y] [] (.ret (iA n) []) ∧ decide (n < 0) = lt x y
theorem callSWP : callable Tryz.prog 121 = true := by kernel_rfl
theorem callROT : callable Tryz.prog 108 = true := by kernel_rfl
theorem callINS : callable Tryz.prog 95 = true := by kernel_rfl
theorem callSYM : callable Tryz.prog 96 = true := by kernel_rfl
theorem callST : callable Tryz.prog 74 = true := by kernel_rfl
theorem callSF : callable Tryz.prog 40 = true := by kernel_rfl
theorem swpG_len (a b : Nat) : ∀ (k i : Nat) (D : List Doc), (swpG a b k i D).length = D.length
  | 0, _, _ => rfl
  | k + 1, i, D => by rw [swpG, swpG_len a b k, swapL_len]
theorem loopSwp (a b n : Nat) : ∀ (k i : Nat) (D : List Doc), n - i = k → i ≤ n → a + n ≤ D.length → b + n ≤ D.length → D.length ≤ 2 ^ 40 → LoopC Tryz.prog W [100000] (nslots Tryz.prog 121) (loopOf Tryz.prog 121 0) (Sswp D a b n i) (.exit 0) (Est (swpG a b k i D)) := by
  intro k
  induction k with
  | zero =>
    intro i D hk hi h1 h2 h3
    exact loop_last (by simp) (body_of_sbodyK mixedz (swpI_1 W D a b n i) So_z2 [] [] So_z1)
  | succ k ih =>
    intro i D hk hi h1 h2 h3
    obtain ⟨x, hx⟩ := getOf (l := D) (i := a + i) (by omega)
    obtain ⟨y, hy⟩ := getOf (l := D) (i := b + i) (by omega)
    have w1 : IntKind.i64.wrap ((a : Int) + (i : Int)) = ((a + i : Nat) : Int) := wrapS (by omega) (by omega) (by omega)
    have w2 : IntKind.i64.wrap ((b : Int) + (i : Int)) = ((b + i : Nat) : Int) := wrapS (by omega) (by omega) (by omega)
    have hws : IntKind.i64.wrap ((i : Int) + 1) = ((i + 1 : Nat) : Int) := wrap_succ (by omega)
    have g1 := docs_at hx
    have g2 := docs_at hy
    have g3 := docs_at2 hx hy
    have hset := docs_swap hx hy
    have hl := swapL_len D (a + i) (b + i)
    have hgl := hl.symm
    have hb := swpI_0 W D a b n i x y
    rw [w1, w2] at hb
    have nx := ih (i + 1) (swapL D (a + i) (b + i)) (by omega) (by omega) (by omega) (by omega) (by omega)
    exact loop_next (body_of_sbodyK mixedz hb (by clear hb nx; exact So_z2) [] [] (σ3 := Sswp (swapL D (a + i) (b + i)) a b n (i + 1)) (by clear hb nx; exact So_z1)) nx
theorem swpM (D : List Doc) (a b n N : Nat) (hN : N = D.length) (h1 : a + n ≤ D.length) (h2 : b + n ≤ D.length) (h3 : D.length ≤ 2 ^ 40) : MutC Tryz.prog W 121 [.gs 100000 0 N, iA a, iA b, iA n, cmS] (arrD D) (.ret (.tup []) (arrD (swpG a b n 0 D))) := by
  subst hN
  have hl := loopSwp W a b n n 0 D (by omega) (by omega) h1 h2 h3
  generalize swpG a b n 0 D = D2 at hl ⊢
  exact mut_of_sfun mixedz callSWP rfl (swpF_0 W D D2 a b n) So_z2
theorem rotG_len (m : Nat) : ∀ (f i j : Nat) (D : List Doc), (rotG m f i j D).length = D.length
  | 0, _, _, _ => rfl
  | f + 1, i, j, D => by
    rw [rotG]
    split
    · exact swpG_len _ _ _ _ _
    · split
      · rw [rotG_len m f, swpG_len]
      · rw [rotG_len m f, swpG_len]
theorem loopRot (m : Nat) : ∀ (f i j : Nat) (D : List Doc), 0 < i → 0 < j → i + j ≤ f + 1 → 0 < f → i ≤ m → m + j ≤ D.length → D.length ≤ 2 ^ 40 → ∃ (D1 : List Doc) (k : Nat), LoopC Tryz.prog W [100000] (nslots Tryz.prog 108) (loopOf Tryz.prog 108 0) (Srot D m i j) (.exit 0) ⟨[(0, .gs 100000 0 D1.length), (2, iA m), (4, cmS), (10, iA k)], arrD D1⟩ ∧ swpG (m - k) m k 0 D1 = rotG m f i j D ∧ k ≤ m ∧ m + k ≤ D1.length ∧ D1.length = D.length := by
  intro f
  induction f with
  | zero => intro i j D _ _ _ h; omega
  | succ f ih =>
    intro i j D hi hj hf _ him hjm hD
    rw [rotG]
    by_cases e : i = j
    · have c1 : (!decide ((i : Int) = (j : Int))) = false := by rw [decide_eq_true (by omega)]; rfl
      rw [if_pos e]
      exact ⟨D, i, loop_last (by simp) (body_of_sbodyK mixedz (rotI_2 W D i j m) So_z2 [] [] So_z1), rfl, him, by omega, rfl⟩
    · have c1 : (!decide ((i : Int) = (j : Int))) = true := by rw [decide_eq_false (by omega)]; rfl
      have w1 : IntKind.i64.wrap ((m : Int) - (i : Int)) = ((m - i : Nat) : Int) := wrapS (by omega) (by omega) (by omega)
      rw [if_neg e]
      by_cases e2 : j < i
      · have c2 : decide ((j : Int) < (i : Int)) = true := decide_eq_true (by omega)
        have hws : IntKind.i64.wrap ((i : Int) - (j : Int)) = ((i - j : Nat) : Int) := wrapS (by omega) (by omega) (by omega)
        rw [if_pos e2]
        have hM := swpM W D (m - i) m j D.length rfl (by omega) (by omega) hD
        have hl := swpG_len (m - i) m j 0 D
        generalize swpG (m - i) m j 0 D = D2 at hM hl ⊢
        obtain ⟨D1, k, g1, g2, g3, g4, g5⟩ := ih (i - j) j D2 (by omega) hj (by omega) (by omega) (by omega) (by omega) (by omega)
        have hgl := hl.symm
        have hb := rotI_0 W D D2 i j m
        rw [w1] at hb
        exact ⟨D1, k, loop_next (body_of_sbodyK mixedz hb (by clear hb g1; exact So_z2) [] [] (σ3 := Srot D2 m (i - j) j) (by clear hb g1; exact So_z1)) g1, g2, g3, g4, by omega⟩
      · have c2 : decide ((j : Int) < (i : Int)) = false := decide_eq_false (by omega)
        have hws : IntKind.i64.wrap ((j : Int) - (i : Int)) = ((j - i : Nat) : Int) := wrapS (by omega) (by omega) (by omega)
        have w2 : IntKind.i64.wrap (IntKind.i64.wrap ((m : Int) + (j : Int)) - (i : Int)) = ((m + j - i : Nat) : Int) := by
          rw [show IntKind.i64.wrap ((m : Int) + (j : Int)) = ((m + j : Nat) : Int) from wrapS (by omega) (by omega) (by omega)]
          exact wrapS (by omega) (by omega) (by omega)
        rw [if_neg e2]
        have hM := swpM W D (m - i) (m + j - i) i D.length rfl (by omega) (by omega) hD
        have hl := swpG_len (m - i) (m + j - i) i 0 D
        generalize swpG (m - i) (m + j - i) i 0 D = D2 at hM hl ⊢
        obtain ⟨D1, k, g1, g2, g3, g4, g5⟩ := ih i (j - i) D2 hi (by omega) (by omega) (by omega) (by omega) (by omega) (by omega)
        have hgl := hl.symm
        have hb := rotI_1 W D D2 i j m
        rw [w1, w2] at hb
        exact ⟨D1, k, loop_next (body_of_sbodyK mixedz hb (by clear hb g1; exact So_z2) [] [] (σ3 := Srot D2 m i (j - i)) (by clear hb g1; exact So_z1)) g1, g2, g3, g4, by omega⟩
theorem rotM (D : List Doc) (a m b f N : Nat) (hN : N = D.length) (h1 : a < m) (h2 : m < b) (h3 : b ≤ D.length) (h4 : D.length ≤ 2 ^ 40) (hf : (m - a) + (b - m) ≤ f + 1) (hf0 : 0 < f) : MutC Tryz.prog W 108 [.gs 100000 0 N, iA a, iA m, iA b, cmS] (arrD D) (.ret (.tup []) (arrD (rotG m f (m - a) (b - m) D))) := by
  subst hN
  obtain ⟨D1, k, g1, g2, g3, g4, g5⟩ := loopRot W m f (m - a) (b - m) D (by omega) (by omega) hf hf0 (by omega) (by omega) h4
  have hM := swpM W D1 (m - k) m k D1.length rfl (by omega) (by omega) (by omega)
  rw [g2] at hM
  generalize rotG m f (m - a) (b - m) D = D2 at hM ⊢
  have w1 : IntKind.i64.wrap ((m : Int) - (k : Int)) = ((m - k : Nat) : Int) := wrapS (by omega) (by omega) (by omega)
  have hws : IntKind.i64.wrap ((m : Int) - (a : Int)) = ((m - a : Nat) : Int) := wrapS (by omega) (by omega) (by omega)
  have hws2 : IntKind.i64.wrap ((b : Int) - (m : Int)) = ((b - m : Nat) : Int) := wrapS (by omega) (by omega) (by omega)
  have hb := rotF_0 W D D1 D2 a b (m - a) (b - m) k m
  rw [w1] at hb
  exact mut_of_sfun mixedz callROT rfl hb (by clear hb; exact So_z2)
theorem insJ_len (lt : Doc → Doc → Bool) (a : Nat) : ∀ (j : Nat) (D : List Doc), (insJ lt a j D).length = D.length
  | 0, _ => rfl
  | j + 1, D => by
    rw [insJ]
    split
    · rw [insJ_len lt a j, swapL_len]
    · rfl
theorem insO_len (lt : Doc → Doc → Bool) (a : Nat) : ∀ (k i : Nat) (D : List Doc), (insO lt a k i D).length = D.length
  | 0, _, _ => rfl
  | k + 1, i, D => by rw [insO, insO_len lt a k, insJ_len]
variable (hcmp : CmpC W lt)
include hcmp
theorem loopInsI (a b i : Nat) : ∀ (j : Nat) (D : List Doc), j < D.length → D.length ≤ 2 ^ 40 → LoopC Tryz.prog W [100000] (nslots Tryz.prog 95) (loopOf Tryz.prog 95 1) (Tins D a b i j) (.exit 2) (Sins (insJ lt a j D) a b i) := by
  intro j
  induction j with
  | zero =>
    intro D hj hD
    exact loop_last (by simp) (body_of_sbodyK mixedz (insI_2 W D a b i 0) So_z2 [] [] So_z1)
  | succ j ih =>
    intro D hj hD
    rw [insJ]
    by_cases ha : a < j + 1
    case neg =>
      rw [if_neg (by rintro ⟨q, _⟩; exact ha q)]
      exact loop_last (by simp) (body_of_sbodyK mixedz (insI_2 W D a b i (j + 1)) So_z2 [] [] So_z1)
    obtain ⟨x, hx⟩ := getOf (l := D) (i := j + 1) (by omega)
    obtain ⟨y, hy⟩ := getOf (l := D) (i := j) (by omega)
    obtain ⟨n, hM, hn⟩ := hcmp x y
    have hws : IntKind.i64.wrap (((j + 1 : Nat) : Int) - 1) = (j : Int) := wrapS (by omega) (by omega) (by omega)
    have g1 := docs_at hx
    have g2 := docs_at hy
    have g3 := docs_at2 hx hy
    have hset := docs_swap hx hy
    have hl := swapL_len D (j + 1) j
    have hgl := hl.symm
    rw [ltAt_eq hx hy]
    cases hlt : lt x y with
    | true =>
      rw [hlt] at hn
      rw [if_pos ⟨ha, rfl⟩]
      have nx := ih (swapL D (j + 1) j) (by omega) (by omega)
      have hb := insI_0 W D a b i (j + 1) n x y
      rw [hws] at hb
      exact loop_next (body_of_sbodyK mixedz hb (by clear hb nx; exact So_z2) [] [] (σ3 := Tins (swapL D (j + 1) j) a b i j) (by clear hb nx; exact So_z1)) nx
    | false =>
      rw [hlt] at hn
      rw [if_neg (by rintro ⟨_, q⟩; cases q)]
      have hb := insI_1 W D a b i (j + 1) n x y
      rw [hws] at hb
      exact loop_last (by simp) (body_of_sbodyK mixedz hb (by clear hb; exact So_z2) [] [] (by clear hb; exact So_z1))
theorem loopInsO (a b : Nat) : ∀ (k i : Nat) (D : List Doc), b - i = k → b ≤ D.length → D.length ≤ 2 ^ 40 → LoopC Tryz.prog W [100000] (nslots Tryz.prog 95) (loopOf Tryz.prog 95 0) (Sins D a b i) (.exit 0) (Est (insO lt a k i D)) := by
  intro k
  induction k with
  | zero =>
    intro i D hk hb hD
    exact loop_last (by simp) (body_of_sbodyK mixedz (insO_1 W D a b i) So_z2 [] [] So_z1)
  | succ k ih =>
    intro i D hk hb hD
    have hws : IntKind.i64.wrap ((i : Int) + 1) = ((i + 1 : Nat) : Int) := wrap_succ (by omega)
    have hl := loopInsI W hcmp a b i i D (by omega) hD
    have h2 := insJ_len lt a i D
    rw [insO]
    have nx := ih (i + 1) (insJ lt a i D) (by omega) (by omega) (by omega)
    generalize insJ lt a i D = D2 at hl h2 nx ⊢
    exact loop_next (body_of_sbodyK mixedz (insO_0 W D D2 a b i) (by clear nx; exact So_z2) [] [] (σ3 := Sins D2 a b (i + 1)) (by clear nx; exact So_z1)) nx
theorem insM (D : List Doc) (a b N : Nat) (hN : N = D.length) (h1 : b ≤ D.length) (h2 : D.length ≤ 2 ^ 40) (ha : a ≤ b) : MutC Tryz.prog W 95 [.gs 100000 0 N, iA a, iA b, cmS] (arrD D) (.ret (.tup []) (arrD (insO lt a (b - (a + 1)) (a + 1) D))) := by
  subst hN
  have hl := loopInsO W hcmp a b (b - (a + 1)) (a + 1) D rfl h1 h2
  generalize insO lt a (b - (a + 1)) (a + 1) D = D2 at hl ⊢
  have hws : IntKind.i64.wrap ((a : Int) + 1) = ((a + 1 : Nat) : Int) := wrap_succ (by omega)
  exact mut_of_sfun mixedz callINS rfl (insF_0 W D D2 a b) So_z2
theorem loopSy0 (D : List Doc) (a : Nat) (ha : a < D.length) (hD : D.length ≤ 2 ^ 40) : ∀ (f i j : Nat), j ≤ f + i → i ≤ j → j ≤ D.length →
    LoopC Tryz.prog W [100000] (nslots Tryz.prog 96) (loopOf Tryz.prog 96 0) (Ssy0 D a i j) (.exit 0) ⟨[(0, .gs 100000 0 D.length), (1, iA a), (10, iA (bsG (fun h => ltAt lt D h a) f i j : Nat))], arrD D⟩ := by
  intro f
  induction f with
  | zero =>
    intro i j h1 h2 h3
    exact loop_last (by simp) (body_of_sbodyK mixedz (sy0_2 W D a i j) So_z2 [] [] So_z1)
  | succ f ih =>
    intro i j h1 h2 h3
    rw [bsG]
    by_cases hij : i < j
    case neg =>
      rw [if_neg hij]
      exact loop_last (by simp) (body_of_sbodyK mixedz (sy0_2 W D a i j) So_z2 [] [] So_z1)
    rw [if_pos hij]
    have hmw := midW (i := i) (j := j) (by omega)
    have n1 := fun h => ih ((i + j) / 2 + 1) j h (by omega) h3
    have n2 := fun h => ih i ((i + j) / 2) h (by omega) (by omega)
    have b1 : i ≤ (i + j) / 2 ∧ (i + j) / 2 < j := by omega
    generalize (i + j) / 2 = c at *
    obtain ⟨x, hx⟩ := getOf (l := D) (i := c) (by omega)
    obtain ⟨y, hy⟩ := getOf (l := D) (i := a) (by omega)
    obtain ⟨n, hM, hn⟩ := hcmp x y
    have hws : IntKind.i64.wrap ((c : Int) + 1) = ((c + 1 : Nat) : Int) := wrap_succ (by omega)
    have g1 := docs_at hx
    have g2 := docs_at hy
    rw [ltAt_eq hx hy]
    cases hlt : lt x y with
    | true =>
      rw [hlt] at hn
      rw [if_pos rfl]
      have nx := n1 (by omega)
      have hb := sy0_0 W D a i j n x y
      rw [hmw] at hb
      exact loop_next (body_of_sbodyK mixedz hb (by clear hb nx n1 n2; exact So_z2) [] [] (σ3 := Ssy0 D a (c + 1) j) (by clear hb nx n1 n2; exact So_z1)) nx
    | false =>
      rw [hlt] at hn
      rw [if_neg (by simp)]
      have nx := n2 (by omega)
      have hb := sy0_1 W D a i j n x y
      rw [hmw] at hb
      exact loop_next (body_of_sbodyK mixedz hb (by clear hb nx n1 n2; exact So_z2) [] [] (σ3 := Ssy0 D a i c) (by clear hb nx n1 n2; exact So_z1)) nx
theorem loopSy2 (D : List Doc) (m : Nat) (hm : m < D.length) (hD : D.length ≤ 2 ^ 40) : ∀ (f i j : Nat), j ≤ f + i → i ≤ j → j ≤ D.length →
    LoopC Tryz.prog W [100000] (nslots Tryz.prog 96) (loopOf Tryz.prog 96 2) (Ssy2 D m i j) (.exit 4) ⟨[(0, .gs 100000 0 D.length), (2, iA m), (14, iA (bsG (fun h => !ltAt lt D m h) f i j : Nat))], arrD D⟩ := by
  intro f
  induction f with
  | zero =>
    intro i j h1 h2 h3
    exact loop_last (by simp) (body_of_sbodyK mixedz (sy2_2 W D i j m) So_z2 [] [] So_z1)
  | succ f ih =>
    intro i j h1 h2 h3
    rw [bsG]
    by_cases hij : i < j
    case neg =>
      rw [if_neg hij]
      exact loop_last (by simp) (body_of_sbodyK mixedz (sy2_2 W D i j m) So_z2 [] [] So_z1)
    rw [if_pos hij]
    have hmw := midW (i := i) (j := j) (by omega)
    have n1 := fun h => ih ((i + j) / 2 + 1) j h (by omega) h3
    have n2 := fun h => ih i ((i + j) / 2) h (by omega) (by omega)
    have b1 : i ≤ (i + j) / 2 ∧ (i + j) / 2 < j := by omega
    generalize (i + j) / 2 = c at *
    obtain ⟨x, hx⟩ := getOf (l := D) (i := m) (by omega)
    obtain ⟨y, hy⟩ := getOf (l := D) (i := c) (by omega)
    obtain ⟨n, hM, hn⟩ := hcmp x y
    have hws : IntKind.i64.wrap ((c : Int) + 1) = ((c + 1 : Nat) : Int) := wrap_succ (by omega)
    have g1 := docs_at hx
    have g2 := docs_at hy
    rw [ltAt_eq hx hy]
    cases hlt : lt x y with
    | false =>
      rw [hlt] at hn
      have hn2 : (!decide (n < 0)) = true := by rw [hn]; rfl
      rw [if_pos (show (!false) = true from rfl)]
      have nx := n1 (by omega)
      have hb := sy2_0 W D i j m n x y
      rw [hmw] at hb
      exact loop_next (body_of_sbodyK mixedz hb (by clear hb nx n1 n2; exact So_z2) [] [] (σ3 := Ssy2 D m (c + 1) j) (by clear hb nx n1 n2; exact So_z1)) nx
    | true =>
      rw [hlt] at hn
      have hn2 : (!decide (n < 0)) = false := by rw [hn]; rfl
      rw [if_neg (by simp)]
      have nx := n2 (by omega)
      have hb := sy2_1 W D i j m n x y
      rw [hmw] at hb
      exact loop_next (body_of_sbodyK mixedz hb (by clear hb nx n1 n2; exact So_z2) [] [] (σ3 := Ssy2 D m i c) (by clear hb nx n1 n2; exact So_z1)) nx
theorem loopSy4 (D : List Doc) (a m b mid q p st0 : Nat) (hp : p ≤ 2 ^ 41) (hD : D.length ≤ 2 ^ 40) : ∀ (f i j : Nat), j ≤ f + i → i ≤ j → st0 ≤ i → j ≤ D.length → j ≤ p + 1 → p < D.length + st0 →
    LoopC Tryz.prog W [100000] (nslots Tryz.prog 96) (loopOf Tryz.prog 96 4) (Ssy4 D a m b mid q i j p) (.exit 8) ⟨[(0, .gs 100000 0 D.length), (1, iA a), (2, iA m), (3, iA b), (4, cmS), (18, iA mid), (19, iA q), (20, iA (bsG (fun c => !ltAt lt D (p - c) c) f i j : Nat))], arrD D⟩ := by
  intro f
  induction f with
  | zero =>
    intro i j h1 h2 h3 h4 h5 h6
    exact loop_last (by simp) (body_of_sbodyK mixedz (sy4_2 W D a b q i j m p mid) So_z2 [] [] So_z1)
  | succ f ih =>
    intro i j h1 h2 h3 h4 h5 h6
    rw [bsG]
    by_cases hij : i < j
    case neg =>
      rw [if_neg hij]
      exact loop_last (by simp) (body_of_sbodyK mixedz (sy4_2 W D a b q i j m p mid) So_z2 [] [] So_z1)
    rw [if_pos hij]
    have hmw := midW (i := i) (j := j) (by omega)
    have n1 := fun h => ih ((i + j) / 2 + 1) j h (by omega) (by omega) h4 h5 h6
    have n2 := fun h => ih i ((i + j) / 2) h (by omega) h3 (by omega) (by omega) h6
    have b1 : i ≤ (i + j) / 2 ∧ (i + j) / 2 < j := by omega
    generalize (i + j) / 2 = c at *
    have hpc : IntKind.i64.wrap ((p : Int) - (c : Int)) = ((p - c : Nat) : Int) := wrapS (by omega) (by omega) (by omega)
    obtain ⟨x, hx⟩ := getOf (l := D) (i := p - c) (by omega)
    obtain ⟨y, hy⟩ := getOf (l := D) (i := c) (by omega)
    obtain ⟨n, hM, hn⟩ := hcmp x y
    have hws : IntKind.i64.wrap ((c : Int) + 1) = ((c + 1 : Nat) : Int) := wrap_succ (by omega)
    have g1 := docs_at hx
    have g2 := docs_at hy
    rw [ltAt_eq hx hy]
    cases hlt : lt x y with
    | false =>
      rw [hlt] at hn
      have hn2 : (!decide (n < 0)) = true := by rw [hn]; rfl
      rw [if_pos (show (!false) = true from rfl)]
      have nx := n1 (by omega)
      have hb := sy4_0 W D a b q i j m p mid n x y
      rw [hmw, hpc] at hb
      exact loop_next (body_of_sbodyK mixedz hb (by clear hb nx n1 n2; exact So_z2) [] [] (σ3 := Ssy4 D a m b mid q (c + 1) j p) (by clear hb nx n1 n2; exact So_z1)) nx
    | true =>
      rw [hlt] at hn
      have hn2 : (!decide (n < 0)) = false := by rw [hn]; rfl
      rw [if_neg (by simp)]
      have nx := n2 (by omega)
      have hb := sy4_1 W D a b q i j m p mid n x y
      rw [hmw, hpc] at hb
      exact loop_next (body_of_sbodyK mixedz hb (by clear hb nx n1 n2; exact So_z2) [] [] (σ3 := Ssy4 D a m b mid q i c p) (by clear hb nx n1 n2; exact So_z1)) nx
omit hcmp
theorem loopUp (i : Nat) : ∀ (t k : Nat) (D : List Doc), i - 1 - k = t → 1 ≤ i → i ≤ D.length → D.length ≤ 2 ^ 40 → LoopC Tryz.prog W [100000] (nslots Tryz.prog 96) (loopOf Tryz.prog 96 1) (Ssy1 D i k) (.exit 2) (Est (upG t k D)) := by
  intro t
  induction t with
  | zero =>
    intro k D hk h1 h2 h3
    have w1 : IntKind.i64.wrap ((i : Int) - 1) = ((i - 1 : Nat) : Int) := wrapS (by omega) (by omega) (by omega)
    have hb := sy1_1 W D k i
    rw [w1] at hb
    exact loop_last (by simp) (body_of_sbodyK mixedz hb (by clear hb; exact So_z2) [] [] (by clear hb; exact So_z1))
  | succ t ih =>
    intro k D hk h1 h2 h3
    have w1 : IntKind.i64.wrap ((i : Int) - 1) = ((i - 1 : Nat) : Int) := wrapS (by omega) (by omega) (by omega)
    obtain ⟨x, hx⟩ := getOf (l := D) (i := k) (by omega)
    obtain ⟨y, hy⟩ := getOf (l := D) (i := k + 1) (by omega)
    have hws : IntKind.i64.wrap ((k : Int) + 1) = ((k + 1 : Nat) : Int) := wrap_succ (by omega)
    have g1 := docs_at hx
    have g2 := docs_at hy
    have g3 := docs_at2 hx hy
    have hset := docs_swap hx hy
    have hl := swapL_len D k (k + 1)
    have hgl := hl.symm
    rw [upG]
    have nx := ih (k + 1) (swapL D k (k + 1)) (by omega) h1 (by omega) (by omega)
    have hb := sy1_0 W D k i x y
    rw [w1, hws] at hb
    exact loop_next (body_of_sbodyK mixedz hb (by clear hb nx; exact So_z2) [] [] (σ3 := Ssy1 (swapL D k (k + 1)) i (k + 1)) (by clear hb nx; exact So_z1)) nx
theorem loopDn (i : Nat) : ∀ (t k : Nat) (D : List Doc), k - i = t → k < D.length → D.length ≤ 2 ^ 40 → LoopC Tryz.prog W [100000] (nslots Tryz.prog 96) (loopOf Tryz.prog 96 3) (Ssy3 D i k) (.exit 6) (Est (dnG t k D)) := by
  intro t
  induction t with
  | zero =>
    intro k D hk h2 h3
    exact loop_last (by simp) (body_of_sbodyK mixedz (sy3_1 W D i k) So_z2 [] [] So_z1)
  | succ t ih =>
    intro k D hk h2 h3
    obtain ⟨x, hx⟩ := getOf (l := D) (i := k) (by omega)
    obtain ⟨y, hy⟩ := getOf (l := D) (i := k - 1) (by omega)
    have hws : IntKind.i64.wrap ((k : Int) - 1) = ((k - 1 : Nat) : Int) := wrapS (by omega) (by omega) (by omega)
    have g1 := docs_at hx
    have g2 := docs_at hy
    have g3 := docs_at2 hx hy
    have hset := docs_swap hx hy
    have hl := swapL_len D k (k - 1)
    have hgl := hl.symm
    rw [dnG]
    have nx := ih (k - 1) (swapL D k (k - 1)) (by omega) (by omega) (by omega)
    have hb := sy3_0 W D i k x y
    rw [hws] at hb
    exact loop_next (body_of_sbodyK mixedz hb (by clear hb nx; exact So_z2) [] [] (σ3 := Ssy3 (swapL D k (k - 1)) i (k - 1)) (by clear hb nx; exact So_z1)) nx
theorem upG_len : ∀ (k i : Nat) (D : List Doc), (upG k i D).length = D.length
  | 0, _, _ => rfl
  | k + 1, i, D => by rw [upG, upG_len k, swapL_len]
theorem dnG_len : ∀ (k i : Nat) (D : List Doc), (dnG k i D).length = D.length
  | 0, _, _ => rfl
  | k + 1, i, D => by rw [dnG, dnG_len k, swapL_len]
theorem symM_len (lt : Doc → Doc → Bool) : ∀ (f a m b : Nat) (D : List Doc), (symM lt f a m b D).length = D.length
  | 0, _, _, _, _ => rfl
  | f + 1, a, m, b, D => by
    rw [symM]
    split
    · exact upG_len _ _ _
    · split
      · exact dnG_len _ _ _
      · dsimp only
        have h2 : ∀ (c : Prop) [Decidable c] (x y z : Nat) (E : List Doc), (if c then symM lt f x y z E else E).length = E.length := fun c _ x y z E => by
          split
          · exact symM_len lt f _ _ _ _
          · rfl
        have h1 : ∀ (c : Prop) [Decidable c] (x y z w : Nat) (E : List Doc), (if c then rotG x y z w E else E).length = E.length := fun c _ x y z w E => by
          split
          · exact rotG_len _ _ _ _ _
          · rfl
        rw [h2, h2, h1]
include hcmp
theorem symMM : ∀ (f : Nat) (D : List Doc) (a m b N : Nat), N = D.length → a < m → m < b → b ≤ D.length → b - a ≤ f → D.length ≤ 2 ^ 40 →
    MutC Tryz.prog W 96 [.gs 100000 0 N, iA a, iA m, iA b, cmS] (arrD D) (.ret (.tup []) (arrD (symM lt f a m b D))) := by
  intro f
  induction f with
  | zero => intro D a m b N _ _ _ _ h; omega
  | succ f ih =>
    intro D a m b N hN h1 h2 h3 hf hD
    subst hN
    have wma : IntKind.i64.wrap ((m : Int) - (a : Int)) = ((m - a : Nat) : Int) := wrapS (by omega) (by omega) (by omega)
    have wbm : IntKind.i64.wrap ((b : Int) - (m : Int)) = ((b - m : Nat) : Int) := wrapS (by omega) (by omega) (by omega)
    by_cases c1 : m - a = 1
    · have l0 := loopSy0 W hcmp D a (by omega) hD b m b (by omega) (by omega) h3
      obtain ⟨k, hk, k1, k2, _, _⟩ := bsG_ok (fun h => ltAt lt D h a) b m b (by omega) (by omega)
      rw [symM, if_pos c1]
      rw [hk] at l0 ⊢
      have l1 := loopUp W k (k - 1 - a) a D rfl (by omega) (by omega) hD
      generalize upG (k - 1 - a) a D = D2 at l1 ⊢
      have hb := symA_0 W D D2 a b k m
      rw [wma] at hb
      exact mut_of_sfun mixedz callSYM rfl hb (by clear hb ih hk; exact So_z2)
    by_cases c2 : b - m = 1
    · have l0 := loopSy2 W hcmp D m (by omega) hD b a m (by omega) (by omega) (by omega)
      obtain ⟨k, hk, k1, k2, _, _⟩ := bsG_ok (fun h => !ltAt lt D m h) b a m (by omega) (by omega)
      rw [symM, if_neg c1, if_pos c2]
      rw [hk] at l0 ⊢
      have l1 := loopDn W k (m - k) m D rfl (by omega) hD
      generalize dnG (m - k) m D = D2 at l1 ⊢
      have hb := symB_0 W D D2 a b k m
      rw [wma, wbm] at hb
      exact mut_of_sfun mixedz callSYM rfl hb (by clear hb ih hk; exact So_z2)
    have hmw := midW (i := a) (j := b) (by omega)
    have hS : ∀ mid st en st0 r0 D1 D2 D3, (a + b) / 2 = mid → (if mid < m then mid + m - b else a) = st0 → (if mid < m then mid else m) = r0 → bsG (fun c => !ltAt lt D (mid + m - 1 - c) c) b st0 r0 = st → mid + m - st = en →
        (if st < m ∧ m < en then rotG m b (m - st) (en - m) D else D) = D1 → (if a < st ∧ st < mid then symM lt f a st mid D1 else D1) = D2 → (if mid < en ∧ en < b then symM lt f mid en b D2 else D2) = D3 → symM lt (f + 1) a m b D = D3 := by
      intro mid st en st0 r0 D1 D2 D3 e1 e2 e3 e4 e5 e6 e7 e8
      rw [symM, if_neg c1, if_neg c2]
      dsimp only
      rw [e1, e2, e3, e4, e5, e6, e7, e8]
    have hmid : (a + b) / 2 = (a + b) / 2 := rfl
    generalize hmd : (a + b) / 2 = mid at *
    generalize hst0 : (if mid < m then mid + m - b else a) = st0 at *
    generalize hr0 : (if mid < m then mid else m) = r0 at *
    have hb0 : a ≤ st0 ∧ st0 ≤ r0 ∧ r0 ≤ m ∧ mid + m ≤ st0 + b ∧ r0 ≤ mid := by
      split at hst0 <;> split at hr0 <;> omega
    have l4 := loopSy4 W hcmp D a m b mid (mid + m) (mid + m - 1) st0 (by omega) hD b st0 r0 (by omega) (by omega) (Nat.le_refl _) (by omega) (by omega) (by omega)
    obtain ⟨st, hst, s1, s2, _, _⟩ := bsG_ok (fun c => !ltAt lt D (mid + m - 1 - c) c) b st0 r0 (by omega) (by omega)
    rw [hst] at l4
    have hSS := hS mid st (mid + m - st) st0 r0 _ _ _ rfl hst0 hr0 hst rfl rfl rfl rfl
    have wen : IntKind.i64.wrap (((mid + m : Nat) : Int) - (st : Int)) = ((mid + m - st : Nat) : Int) := wrapS (by omega) (by omega) (by omega)
    have wn : IntKind.i64.wrap ((mid : Int) + (m : Int)) = ((mid + m : Nat) : Int) := wrapS (by omega) (by omega) (by omega)
    have wp : IntKind.i64.wrap (((mid + m : Nat) : Int) - 1) = ((mid + m - 1 : Nat) : Int) := wrapS (by omega) (by omega) (by omega)
    rw [hSS]
    clear hSS hS
    generalize hen : mid + m - st = en at *
    have k1 : st < m → st < mid → MutC Tryz.prog W 108 [.gs 100000 0 D.length, iA st, iA m, iA en, cmS] (arrD D) (.ret (.tup []) (arrD (if st < m ∧ m < en then rotG m b (m - st) (en - m) D else D))) := fun q1 q2 => by
      rw [if_pos ⟨q1, by omega⟩]
      exact rotM W D st m en b D.length rfl q1 (by omega) (by omega) hD (by omega) (by omega)
    have n1 : ¬ (st < m ∧ st < mid) → (if st < m ∧ m < en then rotG m b (m - st) (en - m) D else D) = D := fun q => if_neg (by omega)
    have e1 : (if st < m ∧ m < en then rotG m b (m - st) (en - m) D else D).length = D.length := by
      split
      · exact rotG_len _ _ _ _ _
      · rfl
    generalize (if st < m ∧ m < en then rotG m b (m - st) (en - m) D else D) = D1 at *
    have k2 : a < st → st < mid → MutC Tryz.prog W 96 [.gs 100000 0 D.length, iA a, iA st, iA mid, cmS] (arrD D1) (.ret (.tup []) (arrD (if a < st ∧ st < mid then symM lt f a st mid D1 else D1))) := fun q1 q2 => by
      rw [if_pos ⟨q1, q2⟩]
      exact ih D1 a st mid D.length e1.symm q1 q2 (by omega) (by omega) (by omega)
    have n2 : ¬ (a < st ∧ st < mid) → (if a < st ∧ st < mid then symM lt f a st mid D1 else D1) = D1 := fun q => if_neg q
    have e2 : (if a < st ∧ st < mid then symM lt f a st mid D1 else D1).length = D.length := by
      split
      · rw [symM_len]; exact e1
      · exact e1
    generalize (if a < st ∧ st < mid then symM lt f a st mid D1 else D1) = D2 at *
    have k3 : st < m → en < b → MutC Tryz.prog W 96 [.gs 100000 0 D.length, iA mid, iA en, iA b, cmS] (arrD D2) (.ret (.tup []) (arrD (if mid < en ∧ en < b then symM lt f mid en b D2 else D2))) := fun q1 q2 => by
      rw [if_pos ⟨by omega, q2⟩]
      exact ih D2 mid en b D.length e2.symm (by omega) q2 (by omega) (by omega) (by omega)
    have n3 : ¬ (st < m ∧ en < b) → (if mid < en ∧ en < b then symM lt f mid en b D2 else D2) = D2 := fun q => if_neg (by omega)
    generalize (if mid < en ∧ en < b then symM lt f mid en b D2 else D2) = D3 at *
    clear ih
    by_cases hlo : mid < m
    · rw [if_pos hlo] at hst0 hr0
      have wst : IntKind.i64.wrap (((mid + m : Nat) : Int) - (b : Int)) = (st0 : Int) := wrapS (by omega) (by omega) (by omega)
      have wr : r0 = mid := hr0.symm
      have p : st < m := by omega
      by_cases q : st < mid
      · have K1 := k1 p q
        by_cases b1 : a < st
        · have K2 := k2 b1 q
          by_cases cc : en < b
          · have K3 := k3 p cc
            have hb := symLTTTT_0 W D D1 D2 D3 a b (mid + m) st0 r0 m (mid + m - 1) mid st
            rw [hmw, wn, wst, wp, wen, wma, wbm] at hb
            exact mut_of_sfun mixedz callSYM rfl hb (by clear hb k1 k2 k3 n1 n2 n3 hst; subst wr; exact So_z2)
          · obtain rfl := n3 (by omega)
            have hb := symLTTTF_0 W D D1 D3 a b (mid + m) st0 r0 m (mid + m - 1) mid st
            rw [hmw, wn, wst, wp, wen, wma, wbm] at hb
            exact mut_of_sfun mixedz callSYM rfl hb (by clear hb k1 k2 k3 n1 n2 n3 hst; subst wr; exact So_z2)
        · obtain rfl := n2 (by omega)
          by_cases cc : en < b
          · have K3 := k3 p cc
            have hb := symLTTFT_0 W D D2 D3 a b (mid + m) st0 r0 m (mid + m - 1) mid st
            rw [hmw, wn, wst, wp, wen, wma, wbm] at hb
            exact mut_of_sfun mixedz callSYM rfl hb (by clear hb k1 k2 k3 n1 n2 n3 hst; subst wr; exact So_z2)
          · obtain rfl := n3 (by omega)
            have hb := symLTTFF_0 W D D3 a b (mid + m) st0 r0 m (mid + m - 1) mid st
            rw [hmw, wn, wst, wp, wen, wma, wbm] at hb
            exact mut_of_sfun mixedz callSYM rfl hb (by clear hb k1 k2 k3 n1 n2 n3 hst; subst wr; exact So_z2)
      · obtain rfl := n1 (by omega)
        obtain rfl := n2 (by omega)
        have b1 : a < st := by omega
        have cc : en < b := by omega
        have K3 := k3 p cc
        have hb := symLTFTT_0 W D2 D3 a b (mid + m) st0 r0 m (mid + m - 1) mid st
        rw [hmw, wn, wst, wp, wen, wma, wbm] at hb
        exact mut_of_sfun mixedz callSYM rfl hb (by clear hb k1 k2 k3 n1 n2 n3 hst; subst wr; exact So_z2)
    · rw [if_neg hlo] at hst0 hr0
      have wst : st0 = a := hst0.symm
      have wr : r0 = m := hr0.symm
      by_cases p : st < m
      · have q : st < mid := by omega
        have K1 := k1 p q
        by_cases b1 : a < st
        · have K2 := k2 b1 q
          by_cases cc : en < b
          · have K3 := k3 p cc
            have hb := symHTTTT_0 W D D1 D2 D3 a b (mid + m) st0 r0 m (mid + m - 1) mid st
            rw [hmw, wn, wp, wen, wma, wbm] at hb
            exact mut_of_sfun mixedz callSYM rfl hb (by clear hb k1 k2 k3 n1 n2 n3 hst; subst wst wr; exact So_z2)
          · obtain rfl := n3 (by omega)
            have hb := symHTTTF_0 W D D1 D3 a b (mid + m) st0 r0 m (mid + m - 1) mid st
            rw [hmw, wn, wp, wen, wma, wbm] at hb
            exact mut_of_sfun mixedz callSYM rfl hb (by clear hb k1 k2 k3 n1 n2 n3 hst; subst wst wr; exact So_z2)
        · obtain rfl := n2 (by omega)
          by_cases cc : en < b
          · have K3 := k3 p cc
            have hb := symHTTFT_0 W D D2 D3 a b (mid + m) st0 r0 m (mid + m - 1) mid st
            rw [hmw, wn, wp, wen, wma, wbm] at hb
            exact mut_of_sfun mixedz callSYM rfl hb (by clear hb k1 k2 k3 n1 n2 n3 hst; subst wst wr; exact So_z2)
          · obtain rfl := n3 (by omega)
            have hb := symHTTFF_0 W D D3 a b (mid + m) st0 r0 m (mid + m - 1) mid st
            rw [hmw, wn, wp, wen, wma, wbm] at hb
            exact mut_of_sfun mixedz callSYM rfl hb (by clear hb k1 k2 k3 n1 n2 n3 hst; subst wst wr; exact So_z2)
      · obtain rfl := n1 (by omega)
        obtain rfl := n3 (by omega)
        have b1 : a < st := by omega
        by_cases q : st < mid
        · have K2 := k2 b1 q
          have hb := symHFTTN_0 W D1 D3 a b (mid + m) st0 r0 m (mid + m - 1) mid st
          rw [hmw, wn, wp, wen, wma, wbm] at hb
          exact mut_of_sfun mixedz callSYM rfl hb (by clear hb k1 k2 k3 n1 n2 n3 hst; subst wst wr; exact So_z2)
        · obtain rfl := n2 (by omega)
          have hb := symHFFTN_0 W D3 a b (mid + m) st0 r0 m (mid + m - 1) mid st
          rw [hmw, wn, wp, wen, wma, wbm] at hb
          exact mut_of_sfun mixedz callSYM rfl hb (by clear hb k1 k2 k3 n1 n2 n3 hst; subst wst wr; exact So_z2)
end
end Go.Ac

