/- What is proved: contracts of functions of this translation, walked; their plain meaning. No condition beyond those that each theorem names. -/
import Derived.Test.YtdalodgajiodhaaGreatDoorIHFb1
import Derived.Test.YtdalodgajiodhaaGreatDoorSo3
set_option linter.all false
namespace Go.Ac
open Go Go.Proofs
set_option maxRecDepth 10000
set_option maxHeartbeats 1000000
namespace SI
def dT (N : Nat) : AV := .ifc 109 (.gs 100001 0 N)
def arrE {α : Type} (E : α → AV) (D : List α) : List (Nat × GE) := [(100001, .arr 25 5 (D.map E) .own)]
section
variable {α : Type} (E : α → AV) (N : Nat) (D : List α)
def Yins (a b i : Nat) : AS := ⟨[(0, dT N), (1, iA a), (2, iA b), (6, iA i)], arrE E D⟩
def Zins (a b i j : Nat) : AS := ⟨[(0, dT N), (1, iA a), (2, iA b), (6, iA i), (7, iA j)], arrE E D⟩
def Yswp (a b n i : Nat) : AS := ⟨[(0, dT N), (1, iA a), (2, iA b), (3, iA n), (8, iA i)], arrE E D⟩
def Yrot (m i j : Nat) : AS := ⟨[(0, dT N), (2, iA m), (8, iA i), (9, iA j)], arrE E D⟩
def Ysy0 (a i j : Nat) : AS := ⟨[(0, dT N), (1, iA a), (8, iA i), (9, iA j)], arrE E D⟩
def Ysy1 (i : Int) (k : Nat) : AS := ⟨[(0, dT N), (8, iA i), (11, iA k)], arrE E D⟩
def Ysy2 (m i j : Nat) : AS := ⟨[(0, dT N), (2, iA m), (12, iA i), (13, iA j)], arrE E D⟩
def Ysy3 (i k : Nat) : AS := ⟨[(0, dT N), (12, iA i), (15, iA k)], arrE E D⟩
def Ysy4 (a m b mid n i j p : Nat) : AS := ⟨[(0, dT N), (1, iA a), (2, iA m), (3, iA b), (16, iA mid), (17, iA n), (18, iA i), (19, iA j), (20, iA p)], arrE E D⟩
def Yst0 (n bs a b : Nat) : AS := ⟨[(0, dT N), (1, iA n), (4, iA bs), (5, iA a), (6, iA b)], arrE E D⟩
def Yst1 (n bs : Nat) : AS := ⟨[(0, dT N), (1, iA n), (4, iA bs)], arrE E D⟩
def Yest : AS := ⟨[], arrE E D⟩
end
section
variable {α : Type}
theorem jnsF_0 (W : World) (E : α → AV) (N : Nat) (D D2 : List α) (a b : Nat) : sF W { lp := true, ol := true, fin := 9, tl := [] } 110 [dT N, iA a, iA b] (arrE E D) 100002 [ee, .loopM [] [] (Yins E N D a b (a + 1)) (.exit 0) (Yest E D2), ee, .fin [] [] (.tup []) (arrE E D2), ee] [] = .ok (.ret (.tup []) (arrE E D2), [ee], [MatchK [100001] [] [] { t := [(0, .tup [])], h := (arrE E D2) } { t := [(0, .tup [])], h := (arrE E D2) }, LZ W [100001] 110 0 (Yins E N D a b (a + 1)) (.exit 0) (Yest E D2), MatchK [100001] [] [] { t := [(0, dT N), (1, iA (↑a : Int)), (2, iA (↑b : Int)), (6, iA (IntKind.i64.wrap ((↑a : Int) + 1)))], h := (arrE E D) } { t := [(0, dT N), (1, iA (↑a : Int)), (2, iA (↑b : Int)), (6, iA (↑(a + 1) : Int))], h := (arrE E D) }]) := by kernel_rfl
theorem jwpF_0 (W : World) (E : α → AV) (N : Nat) (D D2 : List α) (a b n : Nat) : sF W { lp := true, ol := true, fin := 9, tl := [] } 132 [dT N, iA a, iA b, iA n] (arrE E D) 100002 [ee, .loopM [] [] (Yswp E N D a b n 0) (.exit 0) (Yest E D2), ee, .fin [] [] (.tup []) (arrE E D2), ee] [] = .ok (.ret (.tup []) (arrE E D2), [ee], [MatchK [100001] [] [] { t := [(0, .tup [])], h := (arrE E D2) } { t := [(0, .tup [])], h := (arrE E D2) }, LZ W [100001] 132 0 (Yswp E N D a b n 0) (.exit 0) (Yest E D2), MatchK [100001] [] [] { t := [(0, dT N), (1, iA (↑a : Int)), (2, iA (↑b : Int)), (3, iA (↑n : Int)), (8, iA 0)], h := (arrE E D) } { t := [(0, dT N), (1, iA (↑a : Int)), (2, iA (↑b : Int)), (3, iA (↑n : Int)), (8, iA 0)], h := (arrE E D) }]) := by kernel_rfl
theorem jotF_0 (W : World) (E : α → AV) (N : Nat) (D D1 D2 : List α) (a b i j k m : Nat) : sF W { lp := true, ol := true, fin := 9, tl := [132] } 122 [dT N, iA a, iA m, iA b] (arrE E D) 100002 [ee, .loopM [] [] (Yrot E N D m i j) (.exit 0) { t := [(0, dT N), (2, iA (↑m : Int)), (8, iA (↑k : Int))], h := arrE E D1 }, ee, .lg, ee, cR (.tup []) (arrE E D2), ee, .fin [] [] (.tup []) (arrE E D2), ee] [] = .ok (.ret (.tup []) (arrE E D2), [ee], [MatchK [100001] [] [] { t := [(0, .tup [])], h := (arrE E D2) } { t := [(0, .tup [])], h := (arrE E D2) }, MZ W 132 [dT N, iA (IntKind.i64.wrap ((↑m : Int) - (↑k : Int))), iA (↑m : Int), iA (↑k : Int)] (arrE E D1) (.ret (.tup []) (arrE E D2)), cloHs (arrE E D1), LZ W [100001] 122 0 (Yrot E N D m i j) (.exit 0) { t := [(0, dT N), (2, iA (↑m : Int)), (8, iA (↑k : Int))], h := arrE E D1 }, MatchK [100001] [] [] { t := [(0, dT N), (2, iA (↑m : Int)), (8, iA (IntKind.i64.wrap ((↑m : Int) - (↑a : Int)))), (9, iA (IntKind.i64.wrap ((↑b : Int) - (↑m : Int))))], h := (arrE E D) } { t := [(0, dT N), (2, iA (↑m : Int)), (8, iA (↑i : Int)), (9, iA (↑j : Int))], h := (arrE E D) }]) := by kernel_rfl
theorem jymA_0 (W : World) (E : α → AV) (N : Nat) (D D2 : List α) (a b i m : Nat) : sF W { lp := true, ol := true, fin := 9, tl := [] } 111 [dT N, iA a, iA m, iA b] (arrE E D) 100002 [bt, ee, .loopM [] [] (Ysy0 E N D a m b) (.exit 0) { t := [(0, dT N), (1, iA (↑a : Int)), (8, iA (↑i : Int))], h := arrE E D }, ee, .loopM [] [] (Ysy1 E N D (↑i : Int) a) (.exit 2) (Yest E D2), ee, .fin [] [] (.tup []) (arrE E D2), ee] [] = .ok (.ret (.tup []) (arrE E D2), [ee], [MatchK [100001] [] [] { t := [(0, .tup [])], h := (arrE E D2) } { t := [(0, .tup [])], h := (arrE E D2) }, LZ W [100001] 111 1 (Ysy1 E N D (↑i : Int) a) (.exit 2) (Yest E D2), MatchK [100001] [] [] { t := [(0, dT N), (8, iA (↑i : Int)), (11, iA (↑a : Int))], h := (arrE E D) } { t := [(0, dT N), (8, iA (↑i : Int)), (11, iA (↑a : Int))], h := (arrE E D) }, LZ W [100001] 111 0 (Ysy0 E N D a m b) (.exit 0) { t := [(0, dT N), (1, iA (↑a : Int)), (8, iA (↑i : Int))], h := arrE E D }, MatchK [100001] [] [] { t := [(0, dT N), (1, iA (↑a : Int)), (8, iA (↑m : Int)), (9, iA (↑b : Int))], h := (arrE E D) } { t := [(0, dT N), (1, iA (↑a : Int)), (8, iA (↑m : Int)), (9, iA (↑b : Int))], h := (arrE E D) }, decide (IntKind.i64.wrap ((↑m : Int) - (↑a : Int)) = 1) = true]) := by kernel_rfl
theorem jymB_0 (W : World) (E : α → AV) (N : Nat) (D D2 : List α) (a b i m : Nat) : sF W { lp := true, ol := true, fin := 9, tl := [] } 111 [dT N, iA a, iA m, iA b] (arrE E D) 100002 [bf, bt, ee, .loopM [] [] (Ysy2 E N D m a m) (.exit 4) { t := [(0, dT N), (2, iA (↑m : Int)), (12, iA (↑i : Int))], h := arrE E D }, ee, .loopM [] [] (Ysy3 E N D i m) (.exit 6) (Yest E D2), ee, .fin [] [] (.tup []) (arrE E D2), ee] [] = .ok (.ret (.tup []) (arrE E D2), [ee], [MatchK [100001] [] [] { t := [(0, .tup [])], h := (arrE E D2) } { t := [(0, .tup [])], h := (arrE E D2) }, LZ W [100001] 111 3 (Ysy3 E N D i m) (.exit 6) (Yest E D2), MatchK [100001] [] [] { t := [(0, dT N), (12, iA (↑i : Int)), (15, iA (↑m : Int))], h := (arrE E D) } { t := [(0, dT N), (12, iA (↑i : Int)), (15, iA (↑m : Int))], h := (arrE E D) }, LZ W [100001] 111 2 (Ysy2 E N D m a m) (.exit 4) { t := [(0, dT N), (2, iA (↑m : Int)), (12, iA (↑i : Int))], h := arrE E D }, MatchK [100001] [] [] { t := [(0, dT N), (2, iA (↑m : Int)), (12, iA (↑a : Int)), (13, iA (↑m : Int))], h := (arrE E D) } { t := [(0, dT N), (2, iA (↑m : Int)), (12, iA (↑a : Int)), (13, iA (↑m : Int))], h := (arrE E D) }, decide (IntKind.i64.wrap ((↑b : Int) - (↑m : Int)) = 1) = true, decide (IntKind.i64.wrap ((↑m : Int) - (↑a : Int)) = 1) = false]) := by kernel_rfl
theorem jymLTTTT_0 (W : World) (E : α → AV) (N : Nat) (D D1 D2 D3 : List α) (a b n i j m p mid st : Nat) : sF W { lp := true, ol := true, fin := 9, tl := [122, 111] } 111 [dT N, iA a, iA m, iA b] (arrE E D) 100002 [bf, bf, aE 1, bt, ee, .loopM [] [] (Ysy4 E N D a m b mid n i j p) (.exit 8) { t := [(0, dT N), (1, iA (↑a : Int)), (2, iA (↑m : Int)), (3, iA (↑b : Int)), (16, iA (↑mid : Int)), (17, iA (↑n : Int)), (18, iA (↑st : Int))], h := arrE E D }, bt, bt, bt, bt, bt, ee, .lg, ee, cR (.tup []) (arrE E D1), bt, bt, bt, bt, bt, ee, .lg, ee, cR (.tup []) (arrE E D2), bt, bt, bt, bt, bt, ee, .lg, ee, cR (.tup []) (arrE E D3), ee, .fin [] [] (.tup []) (arrE E D3), ee] [] = .ok (.ret (.tup []) (arrE E D3), [ee], MatchK [100001] [] [] { t := [(0, .tup [])], h := (arrE E D3) } { t := [(0, .tup [])], h := (arrE E D3) } :: MZ W 111 [dT N, iA (↑mid : Int), iA (IntKind.i64.wrap ((↑n : Int) - (↑st : Int))), iA (↑b : Int)] (arrE E D2) (.ret (.tup []) (arrE E D3)) :: cloHs (arrE E D2) :: (decide (IntKind.i64.wrap ((↑n : Int) - (↑st : Int)) < (↑b : Int)) = true) :: (d4 (decide ((↑mid : Int) < IntKind.i64.wrap ((↑n : Int) - (↑st : Int))) = true) (MZ W 111 [dT N, iA (↑a : Int), iA (↑st : Int), iA (↑mid : Int)] (arrE E D1) (.ret (.tup []) (arrE E D2)) :: cloHs (arrE E D1) :: (decide ((↑st : Int) < (↑mid : Int)) = true) :: (d4 (decide ((↑a : Int) < (↑st : Int)) = true) (MZ W 122 [dT N, iA (↑st : Int), iA (↑m : Int), iA (IntKind.i64.wrap ((↑n : Int) - (↑st : Int)))] (arrE E D) (.ret (.tup []) (arrE E D1)) :: cloHs (arrE E D) :: (decide ((↑m : Int) < IntKind.i64.wrap ((↑n : Int) - (↑st : Int))) = true) :: (d4 (decide ((↑st : Int) < (↑m : Int)) = true) [LZ W [100001] 111 4 (Ysy4 E N D a m b mid n i j p) (.exit 8) { t := [(0, dT N), (1, iA (↑a : Int)), (2, iA (↑m : Int)), (3, iA (↑b : Int)), (16, iA (↑mid : Int)), (17, iA (↑n : Int)), (18, iA (↑st : Int))], h := arrE E D }, MatchK [100001] [] [] { t := [(0, dT N), (1, iA (↑a : Int)), (2, iA (↑m : Int)), (3, iA (↑b : Int)), (16, iA (IntKind.i64.wrap ((IntKind.u64.wrap (IntKind.i64.wrap ((↑a : Int) + (↑b : Int)))).fdiv 2))), (17, iA (IntKind.i64.wrap (IntKind.i64.wrap ((IntKind.u64.wrap (IntKind.i64.wrap ((↑a : Int) + (↑b : Int)))).fdiv 2) + (↑m : Int)))), (18, iA (IntKind.i64.wrap (IntKind.i64.wrap (IntKind.i64.wrap ((IntKind.u64.wrap (IntKind.i64.wrap ((↑a : Int) + (↑b : Int)))).fdiv 2) + (↑m : Int)) - (↑b : Int)))), (19, iA (IntKind.i64.wrap ((IntKind.u64.wrap (IntKind.i64.wrap ((↑a : Int) + (↑b : Int)))).fdiv 2))), (20, iA (IntKind.i64.wrap (IntKind.i64.wrap (IntKind.i64.wrap ((IntKind.u64.wrap (IntKind.i64.wrap ((↑a : Int) + (↑b : Int)))).fdiv 2) + (↑m : Int)) - 1)))], h := (arrE E D) } { t := [(0, dT N), (1, iA (↑a : Int)), (2, iA (↑m : Int)), (3, iA (↑b : Int)), (16, iA (↑mid : Int)), (17, iA (↑n : Int)), (18, iA (↑i : Int)), (19, iA (↑j : Int)), (20, iA (↑p : Int))], h := (arrE E D) }, decide (IntKind.i64.wrap ((IntKind.u64.wrap (IntKind.i64.wrap ((↑a : Int) + (↑b : Int)))).fdiv 2) < (↑m : Int)) = true, decide (IntKind.i64.wrap ((↑b : Int) - (↑m : Int)) = 1) = false, decide (IntKind.i64.wrap ((↑m : Int) - (↑a : Int)) = 1) = false])))))) := by kernel_rfl
theorem jymLTTTF_0 (W : World) (E : α → AV) (N : Nat) (D D1 D2 : List α) (a b n i j m p mid st : Nat) : sF W { lp := true, ol := true, fin := 9, tl := [122, 111] } 111 [dT N, iA a, iA m, iA b] (arrE E D) 100002 [bf, bf, aE 1, bt, ee, .loopM [] [] (Ysy4 E N D a m b mid n i j p) (.exit 8) { t := [(0, dT N), (1, iA (↑a : Int)), (2, iA (↑m : Int)), (3, iA (↑b : Int)), (16, iA (↑mid : Int)), (17, iA (↑n : Int)), (18, iA (↑st : Int))], h := arrE E D }, bt, bt, bt, bt, bt, ee, .lg, ee, cR (.tup []) (arrE E D1), bt, bt, bt, bt, bt, ee, .lg, ee, cR (.tup []) (arrE E D2), bt, bt, bt, bt, bf, ee, .fin [] [] (.tup []) (arrE E D2), ee] [] = .ok (.ret (.tup []) (arrE E D2), [ee], MatchK [100001] [] [] { t := [(0, .tup [])], h := (arrE E D2) } { t := [(0, .tup [])], h := (arrE E D2) } :: (decide (IntKind.i64.wrap ((↑n : Int) - (↑st : Int)) < (↑b : Int)) = false) :: (d4 (decide ((↑mid : Int) < IntKind.i64.wrap ((↑n : Int) - (↑st : Int))) = true) (MZ W 111 [dT N, iA (↑a : Int), iA (↑st : Int), iA (↑mid : Int)] (arrE E D1) (.ret (.tup []) (arrE E D2)) :: cloHs (arrE E D1) :: (decide ((↑st : Int) < (↑mid : Int)) = true) :: (d4 (decide ((↑a : Int) < (↑st : Int)) = true) (MZ W 122 [dT N, iA (↑st : Int), iA (↑m : Int), iA (IntKind.i64.wrap ((↑n : Int) - (↑st : Int)))] (arrE E D) (.ret (.tup []) (arrE E D1)) :: cloHs (arrE E D) :: (decide ((↑m : Int) < IntKind.i64.wrap ((↑n : Int) - (↑st : Int))) = true) :: (d4 (decide ((↑st : Int) < (↑m : Int)) = true) [LZ W [100001] 111 4 (Ysy4 E N D a m b mid n i j p) (.exit 8) { t := [(0, dT N), (1, iA (↑a : Int)), (2, iA (↑m : Int)), (3, iA (↑b : Int)), (16, iA (↑mid : Int)), (17, iA (↑n : Int)), (18, iA (↑st : Int))], h := arrE E D }, MatchK [100001] [] [] { t := [(0, dT N), (1, iA (↑a : Int)), (2, iA (↑m : Int)), (3, iA (↑b : Int)), (16, iA (IntKind.i64.wrap ((IntKind.u64.wrap (IntKind.i64.wrap ((↑a : Int) + (↑b : Int)))).fdiv 2))), (17, iA (IntKind.i64.wrap (IntKind.i64.wrap ((IntKind.u64.wrap (IntKind.i64.wrap ((↑a : Int) + (↑b : Int)))).fdiv 2) + (↑m : Int)))), (18, iA (IntKind.i64.wrap (IntKind.i64.wrap (IntKind.i64.wrap ((IntKind.u64.wrap (IntKind.i64.wrap ((↑a : Int) + (↑b : Int)))).fdiv 2) + (↑m : Int)) - (↑b : Int)))), (19, iA (IntKind.i64.wrap ((IntKind.u64.wrap (IntKind.i64.wrap ((↑a : Int) + (↑b : Int)))).fdiv 2))), (20, iA (IntKind.i64.wrap (IntKind.i64.wrap (IntKind.i64.wrap ((IntKind.u64.wrap (IntKind.i64.wrap ((↑a : Int) + (↑b : Int)))).fdiv 2) + (↑m : Int)) - 1)))], h := (arrE E D) } { t := [(0, dT N), (1, iA (↑a : Int)), (2, iA (↑m : Int)), (3, iA (↑b : Int)), (16, iA (↑mid : Int)), (17, iA (↑n : Int)), (18, iA (↑i : Int)), (19, iA (↑j : Int)), (20, iA (↑p : Int))], h := (arrE E D) }, decide (IntKind.i64.wrap ((IntKind.u64.wrap (IntKind.i64.wrap ((↑a : Int) + (↑b : Int)))).fdiv 2) < (↑m : Int)) = true, decide (IntKind.i64.wrap ((↑b : Int) - (↑m : Int)) = 1) = false, decide (IntKind.i64.wrap ((↑m : Int) - (↑a : Int)) = 1) = false])))))) := by kernel_rfl
theorem jymLTTFT_0 (W : World) (E : α → AV) (N : Nat) (D D1 D3 : List α) (a b n i j m p mid st : Nat) : sF W { lp := true, ol := true, fin := 9, tl := [122, 111] } 111 [dT N, iA a, iA m, iA b] (arrE E D) 100002 [bf, bf, aE 1, bt, ee, .loopM [] [] (Ysy4 E N D a m b mid n i j p) (.exit 8) { t := [(0, dT N), (1, iA (↑a : Int)), (2, iA (↑m : Int)), (3, iA (↑b : Int)), (16, iA (↑mid : Int)), (17, iA (↑n : Int)), (18, iA (↑st : Int))], h := arrE E D }, bt, bt, bt, bt, bt, ee, .lg, ee, cR (.tup []) (arrE E D1), bf, bf, bf, bf, aE 1, bt, bt, bt, bt, bt, ee, .lg, ee, cR (.tup []) (arrE E D3), ee, .fin [] [] (.tup []) (arrE E D3), ee] [] = .ok (.ret (.tup []) (arrE E D3), [ee], MatchK [100001] [] [] { t := [(0, .tup [])], h := (arrE E D3) } { t := [(0, .tup [])], h := (arrE E D3) } :: MZ W 111 [dT N, iA (↑mid : Int), iA (IntKind.i64.wrap ((↑n : Int) - (↑st : Int))), iA (↑b : Int)] (arrE E D1) (.ret (.tup []) (arrE E D3)) :: cloHs (arrE E D1) :: (decide (IntKind.i64.wrap ((↑n : Int) - (↑st : Int)) < (↑b : Int)) = true) :: (d4 (decide ((↑mid : Int) < IntKind.i64.wrap ((↑n : Int) - (↑st : Int))) = true) (d4 (decide ((↑a : Int) < (↑st : Int)) = false) (MZ W 122 [dT N, iA (↑st : Int), iA (↑m : Int), iA (IntKind.i64.wrap ((↑n : Int) - (↑st : Int)))] (arrE E D) (.ret (.tup []) (arrE E D1)) :: cloHs (arrE E D) :: (decide ((↑m : Int) < IntKind.i64.wrap ((↑n : Int) - (↑st : Int))) = true) :: (d4 (decide ((↑st : Int) < (↑m : Int)) = true) [LZ W [100001] 111 4 (Ysy4 E N D a m b mid n i j p) (.exit 8) { t := [(0, dT N), (1, iA (↑a : Int)), (2, iA (↑m : Int)), (3, iA (↑b : Int)), (16, iA (↑mid : Int)), (17, iA (↑n : Int)), (18, iA (↑st : Int))], h := arrE E D }, MatchK [100001] [] [] { t := [(0, dT N), (1, iA (↑a : Int)), (2, iA (↑m : Int)), (3, iA (↑b : Int)), (16, iA (IntKind.i64.wrap ((IntKind.u64.wrap (IntKind.i64.wrap ((↑a : Int) + (↑b : Int)))).fdiv 2))), (17, iA (IntKind.i64.wrap (IntKind.i64.wrap ((IntKind.u64.wrap (IntKind.i64.wrap ((↑a : Int) + (↑b : Int)))).fdiv 2) + (↑m : Int)))), (18, iA (IntKind.i64.wrap (IntKind.i64.wrap (IntKind.i64.wrap ((IntKind.u64.wrap (IntKind.i64.wrap ((↑a : Int) + (↑b : Int)))).fdiv 2) + (↑m : Int)) - (↑b : Int)))), (19, iA (IntKind.i64.wrap ((IntKind.u64.wrap (IntKind.i64.wrap ((↑a : Int) + (↑b : Int)))).fdiv 2))), (20, iA (IntKind.i64.wrap (IntKind.i64.wrap (IntKind.i64.wrap ((IntKind.u64.wrap (IntKind.i64.wrap ((↑a : Int) + (↑b : Int)))).fdiv 2) + (↑m : Int)) - 1)))], h := (arrE E D) } { t := [(0, dT N), (1, iA (↑a : Int)), (2, iA (↑m : Int)), (3, iA (↑b : Int)), (16, iA (↑mid : Int)), (17, iA (↑n : Int)), (18, iA (↑i : Int)), (19, iA (↑j : Int)), (20, iA (↑p : Int))], h := (arrE E D) }, decide (IntKind.i64.wrap ((IntKind.u64.wrap (IntKind.i64.wrap ((↑a : Int) + (↑b : Int)))).fdiv 2) < (↑m : Int)) = true, decide (IntKind.i64.wrap ((↑b : Int) - (↑m : Int)) = 1) = false, decide (IntKind.i64.wrap ((↑m : Int) - (↑a : Int)) = 1) = false]))))) := by kernel_rfl
theorem jymLTTFF_0 (W : World) (E : α → AV) (N : Nat) (D D1 : List α) (a b n i j m p mid st : Nat) : sF W { lp := true, ol := true, fin := 9, tl := [122, 111] } 111 [dT N, iA a, iA m, iA b] (arrE E D) 100002 [bf, bf, aE 1, bt, ee, .loopM [] [] (Ysy4 E N D a m b mid n i j p) (.exit 8) { t := [(0, dT N), (1, iA (↑a : Int)), (2, iA (↑m : Int)), (3, iA (↑b : Int)), (16, iA (↑mid : Int)), (17, iA (↑n : Int)), (18, iA (↑st : Int))], h := arrE E D }, bt, bt, bt, bt, bt, ee, .lg, ee, cR (.tup []) (arrE E D1), bf, bf, bf, bf, aE 1, bt, bt, bt, bt, bf, ee, .fin [] [] (.tup []) (arrE E D1), ee] [] = .ok (.ret (.tup []) (arrE E D1), [ee], MatchK [100001] [] [] { t := [(0, .tup [])], h := (arrE E D1) } { t := [(0, .tup [])], h := (arrE E D1) } :: (decide (IntKind.i64.wrap ((↑n : Int) - (↑st : Int)) < (↑b : Int)) = false) :: (d4 (decide ((↑mid : Int) < IntKind.i64.wrap ((↑n : Int) - (↑st : Int))) = true) (d4 (decide ((↑a : Int) < (↑st : Int)) = false) (MZ W 122 [dT N, iA (↑st : Int), iA (↑m : Int), iA (IntKind.i64.wrap ((↑n : Int) - (↑st : Int)))] (arrE E D) (.ret (.tup []) (arrE E D1)) :: cloHs (arrE E D) :: (decide ((↑m : Int) < IntKind.i64.wrap ((↑n : Int) - (↑st : Int))) = true) :: (d4 (decide ((↑st : Int) < (↑m : Int)) = true) [LZ W [100001] 111 4 (Ysy4 E N D a m b mid n i j p) (.exit 8) { t := [(0, dT N), (1, iA (↑a : Int)), (2, iA (↑m : Int)), (3, iA (↑b : Int)), (16, iA (↑mid : Int)), (17, iA (↑n : Int)), (18, iA (↑st : Int))], h := arrE E D }, MatchK [100001] [] [] { t := [(0, dT N), (1, iA (↑a : Int)), (2, iA (↑m : Int)), (3, iA (↑b : Int)), (16, iA (IntKind.i64.wrap ((IntKind.u64.wrap (IntKind.i64.wrap ((↑a : Int) + (↑b : Int)))).fdiv 2))), (17, iA (IntKind.i64.wrap (IntKind.i64.wrap ((IntKind.u64.wrap (IntKind.i64.wrap ((↑a : Int) + (↑b : Int)))).fdiv 2) + (↑m : Int)))), (18, iA (IntKind.i64.wrap (IntKind.i64.wrap (IntKind.i64.wrap ((IntKind.u64.wrap (IntKind.i64.wrap ((↑a : Int) + (↑b : Int)))).fdiv 2) + (↑m : Int)) - (↑b : Int)))), (19, iA (IntKind.i64.wrap ((IntKind.u64.wrap (IntKind.i64.wrap ((↑a : Int) + (↑b : Int)))).fdiv 2))), (20, iA (IntKind.i64.wrap (IntKind.i64.wrap (IntKind.i64.wrap ((IntKind.u64.wrap (IntKind.i64.wrap ((↑a : Int) + (↑b : Int)))).fdiv 2) + (↑m : Int)) - 1)))], h := (arrE E D) } { t := [(0, dT N), (1, iA (↑a : Int)), (2, iA (↑m : Int)), (3, iA (↑b : Int)), (16, iA (↑mid : Int)), (17, iA (↑n : Int)), (18, iA (↑i : Int)), (19, iA (↑j : Int)), (20, iA (↑p : Int))], h := (arrE E D) }, decide (IntKind.i64.wrap ((IntKind.u64.wrap (IntKind.i64.wrap ((↑a : Int) + (↑b : Int)))).fdiv 2) < (↑m : Int)) = true, decide (IntKind.i64.wrap ((↑b : Int) - (↑m : Int)) = 1) = false, decide (IntKind.i64.wrap ((↑m : Int) - (↑a : Int)) = 1) = false]))))) := by kernel_rfl
theorem jymLTFTT_0 (W : World) (E : α → AV) (N : Nat) (D D3 : List α) (a b n i j m p mid st : Nat) : sF W { lp := true, ol := true, fin := 9, tl := [122, 111] } 111 [dT N, iA a, iA m, iA b] (arrE E D) 100002 [bf, bf, aE 1, bt, ee, .loopM [] [] (Ysy4 E N D a m b mid n i j p) (.exit 8) { t := [(0, dT N), (1, iA (↑a : Int)), (2, iA (↑m : Int)), (3, iA (↑b : Int)), (16, iA (↑mid : Int)), (17, iA (↑n : Int)), (18, iA (↑st : Int))], h := arrE E D }, bt, bt, bt, bt, bf, bt, bt, bt, bt, bf, bt, bt, bt, bt, bt, ee, .lg, ee, cR (.tup []) (arrE E D3), ee, .fin [] [] (.tup []) (arrE E D3), ee] [] = .ok (.ret (.tup []) (arrE E D3), [ee], MatchK [100001] [] [] { t := [(0, .tup [])], h := (arrE E D3) } { t := [(0, .tup [])], h := (arrE E D3) } :: MZ W 111 [dT N, iA (↑mid : Int), iA (IntKind.i64.wrap ((↑n : Int) - (↑st : Int))), iA (↑b : Int)] (arrE E D) (.ret (.tup []) (arrE E D3)) :: cloHs (arrE E D) :: (decide (IntKind.i64.wrap ((↑n : Int) - (↑st : Int)) < (↑b : Int)) = true) :: (d4 (decide ((↑mid : Int) < IntKind.i64.wrap ((↑n : Int) - (↑st : Int))) = true) ((decide ((↑st : Int) < (↑mid : Int)) = false) :: (d4 (decide ((↑a : Int) < (↑st : Int)) = true) ((decide ((↑m : Int) < IntKind.i64.wrap ((↑n : Int) - (↑st : Int))) = false) :: (d4 (decide ((↑st : Int) < (↑m : Int)) = true) [LZ W [100001] 111 4 (Ysy4 E N D a m b mid n i j p) (.exit 8) { t := [(0, dT N), (1, iA (↑a : Int)), (2, iA (↑m : Int)), (3, iA (↑b : Int)), (16, iA (↑mid : Int)), (17, iA (↑n : Int)), (18, iA (↑st : Int))], h := arrE E D }, MatchK [100001] [] [] { t := [(0, dT N), (1, iA (↑a : Int)), (2, iA (↑m : Int)), (3, iA (↑b : Int)), (16, iA (IntKind.i64.wrap ((IntKind.u64.wrap (IntKind.i64.wrap ((↑a : Int) + (↑b : Int)))).fdiv 2))), (17, iA (IntKind.i64.wrap (IntKind.i64.wrap ((IntKind.u64.wrap (IntKind.i64.wrap ((↑a : Int) + (↑b : Int)))).fdiv 2) + (↑m : Int)))), (18, iA (IntKind.i64.wrap (IntKind.i64.wrap (IntKind.i64.wrap ((IntKind.u64.wrap (IntKind.i64.wrap ((↑a : Int) + (↑b : Int)))).fdiv 2) + (↑m : Int)) - (↑b : Int)))), (19, iA (IntKind.i64.wrap ((IntKind.u64.wrap (IntKind.i64.wrap ((↑a : Int) + (↑b : Int)))).fdiv 2))), (20, iA (IntKind.i64.wrap (IntKind.i64.wrap (IntKind.i64.wrap ((IntKind.u64.wrap (IntKind.i64.wrap ((↑a : Int) + (↑b : Int)))).fdiv 2) + (↑m : Int)) - 1)))], h := (arrE E D) } { t := [(0, dT N), (1, iA (↑a : Int)), (2, iA (↑m : Int)), (3, iA (↑b : Int)), (16, iA (↑mid : Int)), (17, iA (↑n : Int)), (18, iA (↑i : Int)), (19, iA (↑j : Int)), (20, iA (↑p : Int))], h := (arrE E D) }, decide (IntKind.i64.wrap ((IntKind.u64.wrap (IntKind.i64.wrap ((↑a : Int) + (↑b : Int)))).fdiv 2) < (↑m : Int)) = true, decide (IntKind.i64.wrap ((↑b : Int) - (↑m : Int)) = 1) = false, decide (IntKind.i64.wrap ((↑m : Int) - (↑a : Int)) = 1) = false])))))) := by kernel_rfl
theorem jymHFTTN_0 (W : World) (E : α → AV) (N : Nat) (D D2 : List α) (a b n i j m p mid st : Nat) : sF W { lp := true, ol := true, fin := 9, tl := [122, 111] } 111 [dT N, iA a, iA m, iA b] (arrE E D) 100002 [bf, bf, aE 1, bf, ee, .loopM [] [] (Ysy4 E N D a m b mid n i j p) (.exit 8) { t := [(0, dT N), (1, iA (↑a : Int)), (2, iA (↑m : Int)), (3, iA (↑b : Int)), (16, iA (↑mid : Int)), (17, iA (↑n : Int)), (18, iA (↑st : Int))], h := arrE E D }, bf, bf, bf, bf, aE 1, bt, bt, bt, bt, bt, ee, .lg, ee, cR (.tup []) (arrE E D2), bf, bf, bf, bf, ee, .fin [] [] (.tup []) (arrE E D2), ee] [] = .ok (.ret (.tup []) (arrE E D2), [ee], MatchK [100001] [] [] { t := [(0, .tup [])], h := (arrE E D2) } { t := [(0, .tup [])], h := (arrE E D2) } :: (d4 (decide ((↑mid : Int) < IntKind.i64.wrap ((↑n : Int) - (↑st : Int))) = false) (MZ W 111 [dT N, iA (↑a : Int), iA (↑st : Int), iA (↑mid : Int)] (arrE E D) (.ret (.tup []) (arrE E D2)) :: cloHs (arrE E D) :: (decide ((↑st : Int) < (↑mid : Int)) = true) :: (d4 (decide ((↑a : Int) < (↑st : Int)) = true) (d4 (decide ((↑st : Int) < (↑m : Int)) = false) [LZ W [100001] 111 4 (Ysy4 E N D a m b mid n i j p) (.exit 8) { t := [(0, dT N), (1, iA (↑a : Int)), (2, iA (↑m : Int)), (3, iA (↑b : Int)), (16, iA (↑mid : Int)), (17, iA (↑n : Int)), (18, iA (↑st : Int))], h := arrE E D }, MatchK [100001] [] [] { t := [(0, dT N), (1, iA (↑a : Int)), (2, iA (↑m : Int)), (3, iA (↑b : Int)), (16, iA (IntKind.i64.wrap ((IntKind.u64.wrap (IntKind.i64.wrap ((↑a : Int) + (↑b : Int)))).fdiv 2))), (17, iA (IntKind.i64.wrap (IntKind.i64.wrap ((IntKind.u64.wrap (IntKind.i64.wrap ((↑a : Int) + (↑b : Int)))).fdiv 2) + (↑m : Int)))), (18, iA (↑a : Int)), (19, iA (↑m : Int)), (20, iA (IntKind.i64.wrap (IntKind.i64.wrap (IntKind.i64.wrap ((IntKind.u64.wrap (IntKind.i64.wrap ((↑a : Int) + (↑b : Int)))).fdiv 2) + (↑m : Int)) - 1)))], h := (arrE E D) } { t := [(0, dT N), (1, iA (↑a : Int)), (2, iA (↑m : Int)), (3, iA (↑b : Int)), (16, iA (↑mid : Int)), (17, iA (↑n : Int)), (18, iA (↑i : Int)), (19, iA (↑j : Int)), (20, iA (↑p : Int))], h := (arrE E D) }, decide (IntKind.i64.wrap ((IntKind.u64.wrap (IntKind.i64.wrap ((↑a : Int) + (↑b : Int)))).fdiv 2) < (↑m : Int)) = false, decide (IntKind.i64.wrap ((↑b : Int) - (↑m : Int)) = 1) = false, decide (IntKind.i64.wrap ((↑m : Int) - (↑a : Int)) = 1) = false]))))) := by kernel_rfl
theorem jymHFFTN_0 (W : World) (E : α → AV) (N : Nat) (D : List α) (a b n i j m p mid st : Nat) : sF W { lp := true, ol := true, fin := 9, tl := [122, 111] } 111 [dT N, iA a, iA m, iA b] (arrE E D) 100002 [bf, bf, aE 1, bf, ee, .loopM [] [] (Ysy4 E N D a m b mid n i j p) (.exit 8) { t := [(0, dT N), (1, iA (↑a : Int)), (2, iA (↑m : Int)), (3, iA (↑b : Int)), (16, iA (↑mid : Int)), (17, iA (↑n : Int)), (18, iA (↑st : Int))], h := arrE E D }, bf, bf, bf, bf, aE 1, bt, bt, bt, bt, bf, bf, bf, bf, bf, ee, .fin [] [] (.tup []) (arrE E D), ee] [] = .ok (.ret (.tup []) (arrE E D), [ee], MatchK [100001] [] [] { t := [(0, .tup [])], h := (arrE E D) } { t := [(0, .tup [])], h := (arrE E D) } :: (d4 (decide ((↑mid : Int) < IntKind.i64.wrap ((↑n : Int) - (↑st : Int))) = false) ((decide ((↑st : Int) < (↑mid : Int)) = false) :: (d4 (decide ((↑a : Int) < (↑st : Int)) = true) (d4 (decide ((↑st : Int) < (↑m : Int)) = false) [LZ W [100001] 111 4 (Ysy4 E N D a m b mid n i j p) (.exit 8) { t := [(0, dT N), (1, iA (↑a : Int)), (2, iA (↑m : Int)), (3, iA (↑b : Int)), (16, iA (↑mid : Int)), (17, iA (↑n : Int)), (18, iA (↑st : Int))], h := arrE E D }, MatchK [100001] [] [] { t := [(0, dT N), (1, iA (↑a : Int)), (2, iA (↑m : Int)), (3, iA (↑b : Int)), (16, iA (IntKind.i64.wrap ((IntKind.u64.wrap (IntKind.i64.wrap ((↑a : Int) + (↑b : Int)))).fdiv 2))), (17, iA (IntKind.i64.wrap (IntKind.i64.wrap ((IntKind.u64.wrap (IntKind.i64.wrap ((↑a : Int) + (↑b : Int)))).fdiv 2) + (↑m : Int)))), (18, iA (↑a : Int)), (19, iA (↑m : Int)), (20, iA (IntKind.i64.wrap (IntKind.i64.wrap (IntKind.i64.wrap ((IntKind.u64.wrap (IntKind.i64.wrap ((↑a : Int) + (↑b : Int)))).fdiv 2) + (↑m : Int)) - 1)))], h := (arrE E D) } { t := [(0, dT N), (1, iA (↑a : Int)), (2, iA (↑m : Int)), (3, iA (↑b : Int)), (16, iA (↑mid : Int)), (17, iA (↑n : Int)), (18, iA (↑i : Int)), (19, iA (↑j : Int)), (20, iA (↑p : Int))], h := (arrE E D) }, decide (IntKind.i64.wrap ((IntKind.u64.wrap (IntKind.i64.wrap ((↑a : Int) + (↑b : Int)))).fdiv 2) < (↑m : Int)) = false, decide (IntKind.i64.wrap ((↑b : Int) - (↑m : Int)) = 1) = false, decide (IntKind.i64.wrap ((↑m : Int) - (↑a : Int)) = 1) = false]))))) := by kernel_rfl
theorem jymHTTTT_0 (W : World) (E : α → AV) (N : Nat) (D D1 D2 D3 : List α) (a b n i j m p mid st : Nat) : sF W { lp := true, ol := true, fin := 9, tl := [122, 111] } 111 [dT N, iA a, iA m, iA b] (arrE E D) 100002 [bf, bf, aE 1, bf, ee, .loopM [] [] (Ysy4 E N D a m b mid n i j p) (.exit 8) { t := [(0, dT N), (1, iA (↑a : Int)), (2, iA (↑m : Int)), (3, iA (↑b : Int)), (16, iA (↑mid : Int)), (17, iA (↑n : Int)), (18, iA (↑st : Int))], h := arrE E D }, bt, bt, bt, bt, bt, ee, .lg, ee, cR (.tup []) (arrE E D1), bt, bt, bt, bt, bt, ee, .lg, ee, cR (.tup []) (arrE E D2), bt, bt, bt, bt, bt, ee, .lg, ee, cR (.tup []) (arrE E D3), ee, .fin [] [] (.tup []) (arrE E D3), ee] [] = .ok (.ret (.tup []) (arrE E D3), [ee], MatchK [100001] [] [] { t := [(0, .tup [])], h := (arrE E D3) } { t := [(0, .tup [])], h := (arrE E D3) } :: MZ W 111 [dT N, iA (↑mid : Int), iA (IntKind.i64.wrap ((↑n : Int) - (↑st : Int))), iA (↑b : Int)] (arrE E D2) (.ret (.tup []) (arrE E D3)) :: cloHs (arrE E D2) :: (decide (IntKind.i64.wrap ((↑n : Int) - (↑st : Int)) < (↑b : Int)) = true) :: (d4 (decide ((↑mid : Int) < IntKind.i64.wrap ((↑n : Int) - (↑st : Int))) = true) (MZ W 111 [dT N, iA (↑a : Int), iA (↑st : Int), iA (↑mid : Int)] (arrE E D1) (.ret (.tup []) (arrE E D2)) :: cloHs (arrE E D1) :: (decide ((↑st : Int) < (↑mid : Int)) = true) :: (d4 (decide ((↑a : Int) < (↑st : Int)) = true) (MZ W 122 [dT N, iA (↑st : Int), iA (↑m : Int), iA (IntKind.i64.wrap ((↑n : Int) - (↑st : Int)))] (arrE E D) (.ret (.tup []) (arrE E D1)) :: cloHs (arrE E D) :: (decide ((↑m : Int) < IntKind.i64.wrap ((↑n : Int) - (↑st : Int))) = true) :: (d4 (decide ((↑st : Int) < (↑m : Int)) = true) [LZ W [100001] 111 4 (Ysy4 E N D a m b mid n i j p) (.exit 8) { t := [(0, dT N), (1, iA (↑a : Int)), (2, iA (↑m : Int)), (3, iA (↑b : Int)), (16, iA (↑mid : Int)), (17, iA (↑n : Int)), (18, iA (↑st : Int))], h := arrE E D }, MatchK [100001] [] [] { t := [(0, dT N), (1, iA (↑a : Int)), (2, iA (↑m : Int)), (3, iA (↑b : Int)), (16, iA (IntKind.i64.wrap ((IntKind.u64.wrap (IntKind.i64.wrap ((↑a : Int) + (↑b : Int)))).fdiv 2))), (17, iA (IntKind.i64.wrap (IntKind.i64.wrap ((IntKind.u64.wrap (IntKind.i64.wrap ((↑a : Int) + (↑b : Int)))).fdiv 2) + (↑m : Int)))), (18, iA (↑a : Int)), (19, iA (↑m : Int)), (20, iA (IntKind.i64.wrap (IntKind.i64.wrap (IntKind.i64.wrap ((IntKind.u64.wrap (IntKind.i64.wrap ((↑a : Int) + (↑b : Int)))).fdiv 2) + (↑m : Int)) - 1)))], h := (arrE E D) } { t := [(0, dT N), (1, iA (↑a : Int)), (2, iA (↑m : Int)), (3, iA (↑b : Int)), (16, iA (↑mid : Int)), (17, iA (↑n : Int)), (18, iA (↑i : Int)), (19, iA (↑j : Int)), (20, iA (↑p : Int))], h := (arrE E D) }, decide (IntKind.i64.wrap ((IntKind.u64.wrap (IntKind.i64.wrap ((↑a : Int) + (↑b : Int)))).fdiv 2) < (↑m : Int)) = false, decide (IntKind.i64.wrap ((↑b : Int) - (↑m : Int)) = 1) = false, decide (IntKind.i64.wrap ((↑m : Int) - (↑a : Int)) = 1) = false])))))) := by kernel_rfl
theorem jymHTTTF_0 (W : World) (E : α → AV) (N : Nat) (D D1 D2 : List α) (a b n i j m p mid st : Nat) : sF W { lp := true, ol := true, fin := 9, tl := [122, 111] } 111 [dT N, iA a, iA m, iA b] (arrE E D) 100002 [bf, bf, aE 1, bf, ee, .loopM [] [] (Ysy4 E N D a m b mid n i j p) (.exit 8) { t := [(0, dT N), (1, iA (↑a : Int)), (2, iA (↑m : Int)), (3, iA (↑b : Int)), (16, iA (↑mid : Int)), (17, iA (↑n : Int)), (18, iA (↑st : Int))], h := arrE E D }, bt, bt, bt, bt, bt, ee, .lg, ee, cR (.tup []) (arrE E D1), bt, bt, bt, bt, bt, ee, .lg, ee, cR (.tup []) (arrE E D2), bt, bt, bt, bt, bf, ee, .fin [] [] (.tup []) (arrE E D2), ee] [] = .ok (.ret (.tup []) (arrE E D2), [ee], MatchK [100001] [] [] { t := [(0, .tup [])], h := (arrE E D2) } { t := [(0, .tup [])], h := (arrE E D2) } :: (decide (IntKind.i64.wrap ((↑n : Int) - (↑st : Int)) < (↑b : Int)) = false) :: (d4 (decide ((↑mid : Int) < IntKind.i64.wrap ((↑n : Int) - (↑st : Int))) = true) (MZ W 111 [dT N, iA (↑a : Int), iA (↑st : Int), iA (↑mid : Int)] (arrE E D1) (.ret (.tup []) (arrE E D2)) :: cloHs (arrE E D1) :: (decide ((↑st : Int) < (↑mid : Int)) = true) :: (d4 (decide ((↑a : Int) < (↑st : Int)) = true) (MZ W 122 [dT N, iA (↑st : Int), iA (↑m : Int), iA (IntKind.i64.wrap ((↑n : Int) - (↑st : Int)))] (arrE E D) (.ret (.tup []) (arrE E D1)) :: cloHs (arrE E D) :: (decide ((↑m : Int) < IntKind.i64.wrap ((↑n : Int) - (↑st : Int))) = true) :: (d4 (decide ((↑st : Int) < (↑m : Int)) = true) [LZ W [100001] 111 4 (Ysy4 E N D a m b mid n i j p) (.exit 8) { t := [(0, dT N), (1, iA (↑a : Int)), (2, iA (↑m : Int)), (3, iA (↑b : Int)), (16, iA (↑mid : Int)), (17, iA (↑n : Int)), (18, iA (↑st : Int))], h := arrE E D }, MatchK [100001] [] [] { t := [(0, dT N), (1, iA (↑a : Int)), (2, iA (↑m : Int)), (3, iA (↑b : Int)), (16, iA (IntKind.i64.wrap ((IntKind.u64.wrap (IntKind.i64.wrap ((↑a : Int) + (↑b : Int)))).fdiv 2))), (17, iA (IntKind.i64.wrap (IntKind.i64.wrap ((IntKind.u64.wrap (IntKind.i64.wrap ((↑a : Int) + (↑b : Int)))).fdiv 2) + (↑m : Int)))), (18, iA (↑a : Int)), (19, iA (↑m : Int)), (20, iA (IntKind.i64.wrap (IntKind.i64.wrap (IntKind.i64.wrap ((IntKind.u64.wrap (IntKind.i64.wrap ((↑a : Int) + (↑b : Int)))).fdiv 2) + (↑m : Int)) - 1)))], h := (arrE E D) } { t := [(0, dT N), (1, iA (↑a : Int)), (2, iA (↑m : Int)), (3, iA (↑b : Int)), (16, iA (↑mid : Int)), (17, iA (↑n : Int)), (18, iA (↑i : Int)), (19, iA (↑j : Int)), (20, iA (↑p : Int))], h := (arrE E D) }, decide (IntKind.i64.wrap ((IntKind.u64.wrap (IntKind.i64.wrap ((↑a : Int) + (↑b : Int)))).fdiv 2) < (↑m : Int)) = false, decide (IntKind.i64.wrap ((↑b : Int) - (↑m : Int)) = 1) = false, decide (IntKind.i64.wrap ((↑m : Int) - (↑a : Int)) = 1) = false])))))) := by kernel_rfl
theorem jymHTTFT_0 (W : World) (E : α → AV) (N : Nat) (D D1 D3 : List α) (a b n i j m p mid st : Nat) : sF W { lp := true, ol := true, fin := 9, tl := [122, 111] } 111 [dT N, iA a, iA m, iA b] (arrE E D) 100002 [bf, bf, aE 1, bf, ee, .loopM [] [] (Ysy4 E N D a m b mid n i j p) (.exit 8) { t := [(0, dT N), (1, iA (↑a : Int)), (2, iA (↑m : Int)), (3, iA (↑b : Int)), (16, iA (↑mid : Int)), (17, iA (↑n : Int)), (18, iA (↑st : Int))], h := arrE E D }, bt, bt, bt, bt, bt, ee, .lg, ee, cR (.tup []) (arrE E D1), bf, bf, bf, bf, aE 1, bt, bt, bt, bt, bt, ee, .lg, ee, cR (.tup []) (arrE E D3), ee, .fin [] [] (.tup []) (arrE E D3), ee] [] = .ok (.ret (.tup []) (arrE E D3), [ee], MatchK [100001] [] [] { t := [(0, .tup [])], h := (arrE E D3) } { t := [(0, .tup [])], h := (arrE E D3) } :: MZ W 111 [dT N, iA (↑mid : Int), iA (IntKind.i64.wrap ((↑n : Int) - (↑st : Int))), iA (↑b : Int)] (arrE E D1) (.ret (.tup []) (arrE E D3)) :: cloHs (arrE E D1) :: (decide (IntKind.i64.wrap ((↑n : Int) - (↑st : Int)) < (↑b : Int)) = true) :: (d4 (decide ((↑mid : Int) < IntKind.i64.wrap ((↑n : Int) - (↑st : Int))) = true) (d4 (decide ((↑a : Int) < (↑st : Int)) = false) (MZ W 122 [dT N, iA (↑st : Int), iA (↑m : Int), iA (IntKind.i64.wrap ((↑n : Int) - (↑st : Int)))] (arrE E D) (.ret (.tup []) (arrE E D1)) :: cloHs (arrE E D) :: (decide ((↑m : Int) < IntKind.i64.wrap ((↑n : Int) - (↑st : Int))) = true) :: (d4 (decide ((↑st : Int) < (↑m : Int)) = true) [LZ W [100001] 111 4 (Ysy4 E N D a m b mid n i j p) (.exit 8) { t := [(0, dT N), (1, iA (↑a : Int)), (2, iA (↑m : Int)), (3, iA (↑b : Int)), (16, iA (↑mid : Int)), (17, iA (↑n : Int)), (18, iA (↑st : Int))], h := arrE E D }, MatchK [100001] [] [] { t := [(0, dT N), (1, iA (↑a : Int)), (2, iA (↑m : Int)), (3, iA (↑b : Int)), (16, iA (IntKind.i64.wrap ((IntKind.u64.wrap (IntKind.i64.wrap ((↑a : Int) + (↑b : Int)))).fdiv 2))), (17, iA (IntKind.i64.wrap (IntKind.i64.wrap ((IntKind.u64.wrap (IntKind.i64.wrap ((↑a : Int) + (↑b : Int)))).fdiv 2) + (↑m : Int)))), (18, iA (↑a : Int)), (19, iA (↑m : Int)), (20, iA (IntKind.i64.wrap (IntKind.i64.wrap (IntKind.i64.wrap ((IntKind.u64.wrap (IntKind.i64.wrap ((↑a : Int) + (↑b : Int)))).fdiv 2) + (↑m : Int)) - 1)))], h := (arrE E D) } { t := [(0, dT N), (1, iA (↑a : Int)), (2, iA (↑m : Int)), (3, iA (↑b : Int)), (16, iA (↑mid : Int)), (17, iA (↑n : Int)), (18, iA (↑i : Int)), (19, iA (↑j : Int)), (20, iA (↑p : Int))], h := (arrE E D) }, decide (IntKind.i64.wrap ((IntKind.u64.wrap (IntKind.i64.wrap ((↑a : Int) + (↑b : Int)))).fdiv 2) < (↑m : Int)) = false, decide (IntKind.i64.wrap ((↑b : Int) - (↑m : Int)) = 1) = false, decide (IntKind.i64.wrap ((↑m : Int) - (↑a : Int)) = 1) = false]))))) := by kernel_rfl
theorem jymHTTFF_0 (W : World) (E : α → AV) (N : Nat) (D D1 : List α) (a b n i j m p mid st : Nat) : sF W { lp := true, ol := true, fin := 9, tl := [122, 111] } 111 [dT N, iA a, iA m, iA b] (arrE E D) 100002 [bf, bf, aE 1, bf, ee, .loopM [] [] (Ysy4 E N D a m b mid n i j p) (.exit 8) { t := [(0, dT N), (1, iA (↑a : Int)), (2, iA (↑m : Int)), (3, iA (↑b : Int)), (16, iA (↑mid : Int)), (17, iA (↑n : Int)), (18, iA (↑st : Int))], h := arrE E D }, bt, bt, bt, bt, bt, ee, .lg, ee, cR (.tup []) (arrE E D1), bf, bf, bf, bf, aE 1, bt, bt, bt, bt, bf, ee, .fin [] [] (.tup []) (arrE E D1), ee] [] = .ok (.ret (.tup []) (arrE E D1), [ee], MatchK [100001] [] [] { t := [(0, .tup [])], h := (arrE E D1) } { t := [(0, .tup [])], h := (arrE E D1) } :: (decide (IntKind.i64.wrap ((↑n : Int) - (↑st : Int)) < (↑b : Int)) = false) :: (d4 (decide ((↑mid : Int) < IntKind.i64.wrap ((↑n : Int) - (↑st : Int))) = true) (d4 (decide ((↑a : Int) < (↑st : Int)) = false) (MZ W 122 [dT N, iA (↑st : Int), iA (↑m : Int), iA (IntKind.i64.wrap ((↑n : Int) - (↑st : Int)))] (arrE E D) (.ret (.tup []) (arrE E D1)) :: cloHs (arrE E D) :: (decide ((↑m : Int) < IntKind.i64.wrap ((↑n : Int) - (↑st : Int))) = true) :: (d4 (decide ((↑st : Int) < (↑m : Int)) = true) [LZ W [100001] 111 4 (Ysy4 E N D a m b mid n i j p) (.exit 8) { t := [(0, dT N), (1, iA (↑a : Int)), (2, iA (↑m : Int)), (3, iA (↑b : Int)), (16, iA (↑mid : Int)), (17, iA (↑n : Int)), (18, iA (↑st : Int))], h := arrE E D }, MatchK [100001] [] [] { t := [(0, dT N), (1, iA (↑a : Int)), (2, iA (↑m : Int)), (3, iA (↑b : Int)), (16, iA (IntKind.i64.wrap ((IntKind.u64.wrap (IntKind.i64.wrap ((↑a : Int) + (↑b : Int)))).fdiv 2))), (17, iA (IntKind.i64.wrap (IntKind.i64.wrap ((IntKind.u64.wrap (IntKind.i64.wrap ((↑a : Int) + (↑b : Int)))).fdiv 2) + (↑m : Int)))), (18, iA (↑a : Int)), (19, iA (↑m : Int)), (20, iA (IntKind.i64.wrap (IntKind.i64.wrap (IntKind.i64.wrap ((IntKind.u64.wrap (IntKind.i64.wrap ((↑a : Int) + (↑b : Int)))).fdiv 2) + (↑m : Int)) - 1)))], h := (arrE E D) } { t := [(0, dT N), (1, iA (↑a : Int)), (2, iA (↑m : Int)), (3, iA (↑b : Int)), (16, iA (↑mid : Int)), (17, iA (↑n : Int)), (18, iA (↑i : Int)), (19, iA (↑j : Int)), (20, iA (↑p : Int))], h := (arrE E D) }, decide (IntKind.i64.wrap ((IntKind.u64.wrap (IntKind.i64.wrap ((↑a : Int) + (↑b : Int)))).fdiv 2) < (↑m : Int)) = false, decide (IntKind.i64.wrap ((↑b : Int) - (↑m : Int)) = 1) = false, decide (IntKind.i64.wrap ((↑m : Int) - (↑a : Int)) = 1) = false]))))) := by kernel_rfl
theorem jtF_0 (W : World) (E : α → AV) (N : Nat) (D D1 D2 D3 : List α) (a n : Nat) : sF W { lp := true, ol := true, fin := 9, tl := [110] } 100 [dT N, iA n] (arrE E D) 100002 [ee, .loopM [] [] (Yst0 E N D n 20 0 20) (.exit 0) { t := [(0, dT N), (1, iA (↑n : Int)), (4, iA 20), (5, iA (↑a : Int))], h := arrE E D1 }, ee, .lg, ee, cR (.tup []) (arrE E D2), ee, .loopM [] [] (Yst1 E N D2 n 20) (.exit 2) (Yest E D3), ee, .fin [] [] (.tup []) (arrE E D3), ee] [] = .ok (.ret (.tup []) (arrE E D3), [ee], [MatchK [100001] [] [] { t := [(0, .tup [])], h := (arrE E D3) } { t := [(0, .tup [])], h := (arrE E D3) }, LZ W [100001] 100 1 (Yst1 E N D2 n 20) (.exit 2) (Yest E D3), MatchK [100001] [] [] { t := [(0, dT N), (1, iA (↑n : Int)), (4, iA 20)], h := (arrE E D2) } { t := [(0, dT N), (1, iA (↑n : Int)), (4, iA 20)], h := (arrE E D2) }, MZ W 110 [dT N, iA (↑a : Int), iA (↑n : Int)] (arrE E D1) (.ret (.tup []) (arrE E D2)), cloHs (arrE E D1), LZ W [100001] 100 0 (Yst0 E N D n 20 0 20) (.exit 0) { t := [(0, dT N), (1, iA (↑n : Int)), (4, iA 20), (5, iA (↑a : Int))], h := arrE E D1 }, MatchK [100001] [] [] { t := [(0, dT N), (1, iA (↑n : Int)), (4, iA 20), (5, iA 0), (6, iA 20)], h := (arrE E D) } { t := [(0, dT N), (1, iA (↑n : Int)), (4, iA 20), (5, iA 0), (6, iA 20)], h := (arrE E D) }]) := by kernel_rfl
theorem jfF_0 (W : World) (E : α → AV) (N : Nat) (D D2 : List α) : sF W { lp := true, ol := true, fin := 9, tl := [166, 100] } 84 [dT N] (arrE E D) 100002 [ee, .lg, ee, cR (iA (↑N : Int)) (arrE E D), ee, .lg, ee, cR (.tup []) (arrE E D2), ee, .fin [] [] (.tup []) (arrE E D2), ee] [] = .ok (.ret (.tup []) (arrE E D2), [ee], [MatchK [100001] [] [] { t := [(0, .tup [])], h := (arrE E D2) } { t := [(0, .tup [])], h := (arrE E D2) }, MZ W 100 [dT N, iA (↑N : Int)] (arrE E D) (.ret (.tup []) (arrE E D2)), cloHs (arrE E D), MZ W 166 [.gs 100001 0 N] (arrE E D) (.ret (iA (↑N : Int)) (arrE E D)), cloHs (arrE E D)]) := by kernel_rfl
theorem jnsI_0 (W : World) (E : α → AV) (N : Nat) (D D2 : List α) (a b i j : Nat) (lt : Bool) : sQ W { lp := true, ol := true, tl := [167, 168] } 110 1 [100001] [0, 1, 2, 6, 7] (Zins E N D a b i j) [bt, bt, bt, bt, bt, ee, .lg, ee, cR (bA lt) (arrE E D), bt, bt, ee, .lg, ee, cR (.tup []) (arrE E D2), ee] = .ok ((.normal, { t := [(0, dT N), (1, iA (↑a : Int)), (2, iA (↑b : Int)), (6, iA (↑i : Int)), (7, iA (IntKind.i64.wrap ((↑j : Int) - 1)))], h := (arrE E D2) }), [ee], MZ W 168 [.gs 100001 0 N, iA (↑j : Int), iA (IntKind.i64.wrap ((↑j : Int) - 1))] (arrE E D) (.ret (.tup []) (arrE E D2)) :: cloHs (arrE E D) :: (lt = true) :: (decide ((↑a : Int) < (↑j : Int)) = true) :: MZ W 167 [.gs 100001 0 N, iA (↑j : Int), iA (IntKind.i64.wrap ((↑j : Int) - 1))] (arrE E D) (.ret (bA lt) (arrE E D)) :: cloHs (arrE E D) :: (decide ((↑a : Int) < (↑j : Int)) = true) :: (d4 (decide ((↑a : Int) < (↑j : Int)) = true) [])) := by kernel_rfl
theorem jnsI_1 (W : World) (E : α → AV) (N : Nat) (D : List α) (a b i j : Nat) (lt : Bool) : sQ W { lp := true, ol := true, tl := [167, 168] } 110 1 [100001] [0, 1, 2, 6, 7] (Zins E N D a b i j) [bt, bt, bt, bt, bt, ee, .lg, ee, cR (bA lt) (arrE E D), bt, bf, ee] = .ok ((.exit 2, { t := [(0, dT N), (1, iA (↑a : Int)), (2, iA (↑b : Int)), (6, iA (↑i : Int)), (7, iA (↑j : Int))], h := (arrE E D) }), [ee], (lt = false) :: (decide ((↑a : Int) < (↑j : Int)) = true) :: MZ W 167 [.gs 100001 0 N, iA (↑j : Int), iA (IntKind.i64.wrap ((↑j : Int) - 1))] (arrE E D) (.ret (bA lt) (arrE E D)) :: cloHs (arrE E D) :: (decide ((↑a : Int) < (↑j : Int)) = true) :: (d4 (decide ((↑a : Int) < (↑j : Int)) = true) [])) := by kernel_rfl
theorem jnsI_2 (W : World) (E : α → AV) (N : Nat) (D : List α) (a b i j : Nat) : sQ W { lp := true, ol := true, tl := [167, 168] } 110 1 [100001] [0, 1, 2, 6, 7] (Zins E N D a b i j) [bf, bf, bf, bf, bf, bf, ee] = .ok ((.exit 2, { t := [(0, dT N), (1, iA (↑a : Int)), (2, iA (↑b : Int)), (6, iA (↑i : Int)), (7, iA (↑j : Int))], h := (arrE E D) }), [aE 9999999], d6 (decide ((↑a : Int) < (↑j : Int)) = false) []) := by kernel_rfl
theorem jnsO_0 (W : World) (E : α → AV) (N : Nat) (D D2 : List α) (a b i : Nat) : sQ W { lp := true, ol := true, tl := [] } 110 0 [100001] [0, 1, 2, 6] (Yins E N D a b i) [bt, ee, .loopM [] [] (Zins E N D a b i i) (.exit 2) (Yins E N D2 a b i), ee] = .ok ((.normal, { t := [(0, dT N), (1, iA (↑a : Int)), (2, iA (↑b : Int)), (6, iA (IntKind.i64.wrap ((↑i : Int) + 1)))], h := (arrE E D2) }), [ee], [LZ W [100001] 110 1 (Zins E N D a b i i) (.exit 2) (Yins E N D2 a b i), MatchK [100001] [] [] { t := [(0, dT N), (1, iA (↑a : Int)), (2, iA (↑b : Int)), (6, iA (↑i : Int)), (7, iA (↑i : Int))], h := (arrE E D) } (Zins E N D a b i i), decide ((↑i : Int) < (↑b : Int)) = true]) := by kernel_rfl
theorem jnsO_1 (W : World) (E : α → AV) (N : Nat) (D : List α) (a b i : Nat) : sQ W { lp := true, ol := true, tl := [] } 110 0 [100001] [0, 1, 2, 6] (Yins E N D a b i) [bf, ee] = .ok ((.exit 0, { t := [(0, dT N), (1, iA (↑a : Int)), (2, iA (↑b : Int)), (6, iA (↑i : Int))], h := (arrE E D) }), [ee], [decide ((↑i : Int) < (↑b : Int)) = false]) := by kernel_rfl
theorem jwpI_0 (W : World) (E : α → AV) (N : Nat) (D D2 : List α) (a b n i : Nat) : sQ W { lp := true, ol := true, tl := [168] } 132 0 [100001] [0, 1, 2, 3, 8] (Yswp E N D a b n i) [bt, ee, .lg, ee, cR (.tup []) (arrE E D2), ee] = .ok ((.normal, { t := [(0, dT N), (1, iA (↑a : Int)), (2, iA (↑b : Int)), (3, iA (↑n : Int)), (8, iA (IntKind.i64.wrap ((↑i : Int) + 1)))], h := (arrE E D2) }), [ee], [MZ W 168 [.gs 100001 0 N, iA (IntKind.i64.wrap ((↑a : Int) + (↑i : Int))), iA (IntKind.i64.wrap ((↑b : Int) + (↑i : Int)))] (arrE E D) (.ret (.tup []) (arrE E D2)), cloHs (arrE E D), decide ((↑i : Int) < (↑n : Int)) = true]) := by kernel_rfl
theorem jwpI_1 (W : World) (E : α → AV) (N : Nat) (D : List α) (a b n i : Nat) : sQ W { lp := true, ol := true, tl := [168] } 132 0 [100001] [0, 1, 2, 3, 8] (Yswp E N D a b n i) [bf, ee] = .ok ((.exit 0, { t := [(0, dT N), (1, iA (↑a : Int)), (2, iA (↑b : Int)), (3, iA (↑n : Int)), (8, iA (↑i : Int))], h := (arrE E D) }), [ee], [decide ((↑i : Int) < (↑n : Int)) = false]) := by kernel_rfl
theorem jotI_0 (W : World) (E : α → AV) (N : Nat) (D D2 : List α) (i j m : Nat) : sQ W { lp := true, ol := true, tl := [132] } 122 0 [100001] [0, 2, 8, 9] (Yrot E N D m i j) [bt, bt, ee, .lg, ee, cR (.tup []) (arrE E D2), ee] = .ok ((.normal, { t := [(0, dT N), (2, iA (↑m : Int)), (8, iA (IntKind.i64.wrap ((↑i : Int) - (↑j : Int)))), (9, iA (↑j : Int))], h := (arrE E D2) }), [ee], [MZ W 132 [dT N, iA (IntKind.i64.wrap ((↑m : Int) - (↑i : Int))), iA (↑m : Int), iA (↑j : Int)] (arrE E D) (.ret (.tup []) (arrE E D2)), cloHs (arrE E D), decide ((↑j : Int) < (↑i : Int)) = true, (!decide ((↑i : Int) = (↑j : Int))) = true]) := by kernel_rfl
theorem jotI_1 (W : World) (E : α → AV) (N : Nat) (D D2 : List α) (i j m : Nat) : sQ W { lp := true, ol := true, tl := [132] } 122 0 [100001] [0, 2, 8, 9] (Yrot E N D m i j) [bt, bf, ee, .lg, ee, cR (.tup []) (arrE E D2), ee] = .ok ((.normal, { t := [(0, dT N), (2, iA (↑m : Int)), (8, iA (↑i : Int)), (9, iA (IntKind.i64.wrap ((↑j : Int) - (↑i : Int))))], h := (arrE E D2) }), [ee], [MZ W 132 [dT N, iA (IntKind.i64.wrap ((↑m : Int) - (↑i : Int))), iA (IntKind.i64.wrap (IntKind.i64.wrap ((↑m : Int) + (↑j : Int)) - (↑i : Int))), iA (↑i : Int)] (arrE E D) (.ret (.tup []) (arrE E D2)), cloHs (arrE E D), decide ((↑j : Int) < (↑i : Int)) = false, (!decide ((↑i : Int) = (↑j : Int))) = true]) := by kernel_rfl
theorem jotI_2 (W : World) (E : α → AV) (N : Nat) (D : List α) (i j m : Nat) : sQ W { lp := true, ol := true, tl := [132] } 122 0 [100001] [0, 2, 8, 9] (Yrot E N D m i j) [bf, ee] = .ok ((.exit 0, { t := [(0, dT N), (2, iA (↑m : Int)), (8, iA (↑i : Int)), (9, iA (↑j : Int))], h := (arrE E D) }), [ee], [(!decide ((↑i : Int) = (↑j : Int))) = false]) := by kernel_rfl
theorem jy0_0 (W : World) (E : α → AV) (N : Nat) (D : List α) (a i j : Nat) (lt : Bool) : sQ W { lp := true, ol := true, tl := [167] } 111 0 [100001] [0, 1, 8, 9] (Ysy0 E N D a i j) [bt, ee, .lg, ee, cR (bA lt) (arrE E D), bt, ee] = .ok ((.normal, { t := [(0, dT N), (1, iA (↑a : Int)), (8, iA (IntKind.i64.wrap (IntKind.i64.wrap ((IntKind.u64.wrap (IntKind.i64.wrap ((↑i : Int) + (↑j : Int)))).fdiv 2) + 1))), (9, iA (↑j : Int))], h := (arrE E D) }), [ee], [lt = true, MZ W 167 [.gs 100001 0 N, iA (IntKind.i64.wrap ((IntKind.u64.wrap (IntKind.i64.wrap ((↑i : Int) + (↑j : Int)))).fdiv 2)), iA (↑a : Int)] (arrE E D) (.ret (bA lt) (arrE E D)), cloHs (arrE E D), decide ((↑i : Int) < (↑j : Int)) = true]) := by kernel_rfl
theorem jy0_1 (W : World) (E : α → AV) (N : Nat) (D : List α) (a i j : Nat) (lt : Bool) : sQ W { lp := true, ol := true, tl := [167] } 111 0 [100001] [0, 1, 8, 9] (Ysy0 E N D a i j) [bt, ee, .lg, ee, cR (bA lt) (arrE E D), bf, ee] = .ok ((.normal, { t := [(0, dT N), (1, iA (↑a : Int)), (8, iA (↑i : Int)), (9, iA (IntKind.i64.wrap ((IntKind.u64.wrap (IntKind.i64.wrap ((↑i : Int) + (↑j : Int)))).fdiv 2)))], h := (arrE E D) }), [ee], [lt = false, MZ W 167 [.gs 100001 0 N, iA (IntKind.i64.wrap ((IntKind.u64.wrap (IntKind.i64.wrap ((↑i : Int) + (↑j : Int)))).fdiv 2)), iA (↑a : Int)] (arrE E D) (.ret (bA lt) (arrE E D)), cloHs (arrE E D), decide ((↑i : Int) < (↑j : Int)) = true]) := by kernel_rfl
theorem jy0_2 (W : World) (E : α → AV) (N : Nat) (D : List α) (a i j : Nat) : sQ W { lp := true, ol := true, tl := [167] } 111 0 [100001] [0, 1, 8, 9] (Ysy0 E N D a i j) [bf, ee] = .ok ((.exit 0, { t := [(0, dT N), (1, iA (↑a : Int)), (8, iA (↑i : Int)), (9, iA (↑j : Int))], h := (arrE E D) }), [ee], [decide ((↑i : Int) < (↑j : Int)) = false]) := by kernel_rfl
theorem jy1_0 (W : World) (E : α → AV) (N : Nat) (D D2 : List α) (k : Nat) (z : Int) : sQ W { lp := true, ol := true, tl := [168] } 111 1 [100001] [0, 8, 11] (Ysy1 E N D z k) [bt, ee, .lg, ee, cR (.tup []) (arrE E D2), ee] = .ok ((.normal, { t := [(0, dT N), (8, iA z), (11, iA (IntKind.i64.wrap ((↑k : Int) + 1)))], h := (arrE E D2) }), [ee], [MZ W 168 [.gs 100001 0 N, iA (↑k : Int), iA (IntKind.i64.wrap ((↑k : Int) + 1))] (arrE E D) (.ret (.tup []) (arrE E D2)), cloHs (arrE E D), decide ((↑k : Int) < IntKind.i64.wrap (z - 1)) = true]) := by kernel_rfl
theorem jy1_1 (W : World) (E : α → AV) (N : Nat) (D : List α) (k : Nat) (z : Int) : sQ W { lp := true, ol := true, tl := [168] } 111 1 [100001] [0, 8, 11] (Ysy1 E N D z k) [bf, ee] = .ok ((.exit 2, { t := [(0, dT N), (8, iA z), (11, iA (↑k : Int))], h := (arrE E D) }), [ee], [decide ((↑k : Int) < IntKind.i64.wrap (z - 1)) = false]) := by kernel_rfl
theorem jy2_0 (W : World) (E : α → AV) (N : Nat) (D : List α) (i j m : Nat) (lt : Bool) : sQ W { lp := true, ol := true, tl := [167] } 111 2 [100001] [0, 2, 12, 13] (Ysy2 E N D m i j) [bt, ee, .lg, ee, cR (bA lt) (arrE E D), bt, ee] = .ok ((.normal, { t := [(0, dT N), (2, iA (↑m : Int)), (12, iA (IntKind.i64.wrap (IntKind.i64.wrap ((IntKind.u64.wrap (IntKind.i64.wrap ((↑i : Int) + (↑j : Int)))).fdiv 2) + 1))), (13, iA (↑j : Int))], h := (arrE E D) }), [ee], [(!lt) = true, MZ W 167 [.gs 100001 0 N, iA (↑m : Int), iA (IntKind.i64.wrap ((IntKind.u64.wrap (IntKind.i64.wrap ((↑i : Int) + (↑j : Int)))).fdiv 2))] (arrE E D) (.ret (bA lt) (arrE E D)), cloHs (arrE E D), decide ((↑i : Int) < (↑j : Int)) = true]) := by kernel_rfl
theorem jy2_1 (W : World) (E : α → AV) (N : Nat) (D : List α) (i j m : Nat) (lt : Bool) : sQ W { lp := true, ol := true, tl := [167] } 111 2 [100001] [0, 2, 12, 13] (Ysy2 E N D m i j) [bt, ee, .lg, ee, cR (bA lt) (arrE E D), bf, ee] = .ok ((.normal, { t := [(0, dT N), (2, iA (↑m : Int)), (12, iA (↑i : Int)), (13, iA (IntKind.i64.wrap ((IntKind.u64.wrap (IntKind.i64.wrap ((↑i : Int) + (↑j : Int)))).fdiv 2)))], h := (arrE E D) }), [ee], [(!lt) = false, MZ W 167 [.gs 100001 0 N, iA (↑m : Int), iA (IntKind.i64.wrap ((IntKind.u64.wrap (IntKind.i64.wrap ((↑i : Int) + (↑j : Int)))).fdiv 2))] (arrE E D) (.ret (bA lt) (arrE E D)), cloHs (arrE E D), decide ((↑i : Int) < (↑j : Int)) = true]) := by kernel_rfl
theorem jy2_2 (W : World) (E : α → AV) (N : Nat) (D : List α) (i j m : Nat) : sQ W { lp := true, ol := true, tl := [167] } 111 2 [100001] [0, 2, 12, 13] (Ysy2 E N D m i j) [bf, ee] = .ok ((.exit 4, { t := [(0, dT N), (2, iA (↑m : Int)), (12, iA (↑i : Int)), (13, iA (↑j : Int))], h := (arrE E D) }), [ee], [decide ((↑i : Int) < (↑j : Int)) = false]) := by kernel_rfl
theorem jy3_0 (W : World) (E : α → AV) (N : Nat) (D D2 : List α) (i k : Nat) : sQ W { lp := true, ol := true, tl := [168] } 111 3 [100001] [0, 12, 15] (Ysy3 E N D i k) [bt, ee, .lg, ee, cR (.tup []) (arrE E D2), ee] = .ok ((.normal, { t := [(0, dT N), (12, iA (↑i : Int)), (15, iA (IntKind.i64.wrap ((↑k : Int) - 1)))], h := (arrE E D2) }), [ee], [MZ W 168 [.gs 100001 0 N, iA (↑k : Int), iA (IntKind.i64.wrap ((↑k : Int) - 1))] (arrE E D) (.ret (.tup []) (arrE E D2)), cloHs (arrE E D), decide ((↑i : Int) < (↑k : Int)) = true]) := by kernel_rfl
theorem jy3_1 (W : World) (E : α → AV) (N : Nat) (D : List α) (i k : Nat) : sQ W { lp := true, ol := true, tl := [168] } 111 3 [100001] [0, 12, 15] (Ysy3 E N D i k) [bf, ee] = .ok ((.exit 6, { t := [(0, dT N), (12, iA (↑i : Int)), (15, iA (↑k : Int))], h := (arrE E D) }), [ee], [decide ((↑i : Int) < (↑k : Int)) = false]) := by kernel_rfl
theorem jy4_0 (W : World) (E : α → AV) (N : Nat) (D : List α) (a b n i j m p mid : Nat) (lt : Bool) : sQ W { lp := true, ol := true, tl := [167] } 111 4 [100001] [0, 1, 2, 3, 16, 17, 18, 19, 20] (Ysy4 E N D a m b mid n i j p) [bt, ee, .lg, ee, cR (bA lt) (arrE E D), bt, ee] = .ok ((.normal, { t := [(0, dT N), (1, iA (↑a : Int)), (2, iA (↑m : Int)), (3, iA (↑b : Int)), (16, iA (↑mid : Int)), (17, iA (↑n : Int)), (18, iA (IntKind.i64.wrap (IntKind.i64.wrap ((IntKind.u64.wrap (IntKind.i64.wrap ((↑i : Int) + (↑j : Int)))).fdiv 2) + 1))), (19, iA (↑j : Int)), (20, iA (↑p : Int))], h := (arrE E D) }), [ee], [(!lt) = true, MZ W 167 [.gs 100001 0 N, iA (IntKind.i64.wrap ((↑p : Int) - IntKind.i64.wrap ((IntKind.u64.wrap (IntKind.i64.wrap ((↑i : Int) + (↑j : Int)))).fdiv 2))), iA (IntKind.i64.wrap ((IntKind.u64.wrap (IntKind.i64.wrap ((↑i : Int) + (↑j : Int)))).fdiv 2))] (arrE E D) (.ret (bA lt) (arrE E D)), cloHs (arrE E D), decide ((↑i : Int) < (↑j : Int)) = true]) := by kernel_rfl
theorem jy4_1 (W : World) (E : α → AV) (N : Nat) (D : List α) (a b n i j m p mid : Nat) (lt : Bool) : sQ W { lp := true, ol := true, tl := [167] } 111 4 [100001] [0, 1, 2, 3, 16, 17, 18, 19, 20] (Ysy4 E N D a m b mid n i j p) [bt, ee, .lg, ee, cR (bA lt) (arrE E D), bf, ee] = .ok ((.normal, { t := [(0, dT N), (1, iA (↑a : Int)), (2, iA (↑m : Int)), (3, iA (↑b : Int)), (16, iA (↑mid : Int)), (17, iA (↑n : Int)), (18, iA (↑i : Int)), (19, iA (IntKind.i64.wrap ((IntKind.u64.wrap (IntKind.i64.wrap ((↑i : Int) + (↑j : Int)))).fdiv 2))), (20, iA (↑p : Int))], h := (arrE E D) }), [ee], [(!lt) = false, MZ W 167 [.gs 100001 0 N, iA (IntKind.i64.wrap ((↑p : Int) - IntKind.i64.wrap ((IntKind.u64.wrap (IntKind.i64.wrap ((↑i : Int) + (↑j : Int)))).fdiv 2))), iA (IntKind.i64.wrap ((IntKind.u64.wrap (IntKind.i64.wrap ((↑i : Int) + (↑j : Int)))).fdiv 2))] (arrE E D) (.ret (bA lt) (arrE E D)), cloHs (arrE E D), decide ((↑i : Int) < (↑j : Int)) = true]) := by kernel_rfl
theorem jy4_2 (W : World) (E : α → AV) (N : Nat) (D : List α) (a b n i j m p mid : Nat) : sQ W { lp := true, ol := true, tl := [167] } 111 4 [100001] [0, 1, 2, 3, 16, 17, 18, 19, 20] (Ysy4 E N D a m b mid n i j p) [bf, ee] = .ok ((.exit 8, { t := [(0, dT N), (1, iA (↑a : Int)), (2, iA (↑m : Int)), (3, iA (↑b : Int)), (16, iA (↑mid : Int)), (17, iA (↑n : Int)), (18, iA (↑i : Int)), (19, iA (↑j : Int)), (20, iA (↑p : Int))], h := (arrE E D) }), [ee], [decide ((↑i : Int) < (↑j : Int)) = false]) := by kernel_rfl
theorem jt0_0 (W : World) (E : α → AV) (N : Nat) (D D2 : List α) (a b n bs : Nat) : sQ W { lp := true, ol := true, tl := [110] } 100 0 [100001] [0, 1, 4, 5, 6] (Yst0 E N D n bs a b) [bt, ee, .lg, ee, cR (.tup []) (arrE E D2), ee] = .ok ((.normal, { t := [(0, dT N), (1, iA (↑n : Int)), (4, iA (↑bs : Int)), (5, iA (↑b : Int)), (6, iA (IntKind.i64.wrap ((↑b : Int) + (↑bs : Int))))], h := (arrE E D2) }), [ee], [MZ W 110 [dT N, iA (↑a : Int), iA (↑b : Int)] (arrE E D) (.ret (.tup []) (arrE E D2)), cloHs (arrE E D), decide ((↑b : Int) ≤ (↑n : Int)) = true]) := by kernel_rfl
theorem jt0_1 (W : World) (E : α → AV) (N : Nat) (D : List α) (a b n bs : Nat) : sQ W { lp := true, ol := true, tl := [110] } 100 0 [100001] [0, 1, 4, 5, 6] (Yst0 E N D n bs a b) [bf, ee] = .ok ((.exit 0, { t := [(0, dT N), (1, iA (↑n : Int)), (4, iA (↑bs : Int)), (5, iA (↑a : Int)), (6, iA (↑b : Int))], h := (arrE E D) }), [ee], [decide ((↑b : Int) ≤ (↑n : Int)) = false]) := by kernel_rfl
theorem jt1_0 (W : World) (E : α → AV) (N : Nat) (D D2 : List α) (a b n bs : Nat) : sQ W { lp := true, ol := true, tl := [111] } 100 2 [100001] [0, 1, 4, 5, 6] (Yst0 E N D n bs a b) [bt, ee, .lg, ee, cR (.tup []) (arrE E D2), ee] = .ok ((.normal, { t := [(0, dT N), (1, iA (↑n : Int)), (4, iA (↑bs : Int)), (5, iA (↑b : Int)), (6, iA (IntKind.i64.wrap ((↑b : Int) + IntKind.i64.wrap (2 * (↑bs : Int)))))], h := (arrE E D2) }), [ee], [MZ W 111 [dT N, iA (↑a : Int), iA (IntKind.i64.wrap ((↑a : Int) + (↑bs : Int))), iA (↑b : Int)] (arrE E D) (.ret (.tup []) (arrE E D2)), cloHs (arrE E D), decide ((↑b : Int) ≤ (↑n : Int)) = true]) := by kernel_rfl
theorem jt1_1 (W : World) (E : α → AV) (N : Nat) (D : List α) (a b n bs : Nat) : sQ W { lp := true, ol := true, tl := [111] } 100 2 [100001] [0, 1, 4, 5, 6] (Yst0 E N D n bs a b) [bf, ee] = .ok ((.exit 4, { t := [(0, dT N), (1, iA (↑n : Int)), (4, iA (↑bs : Int)), (5, iA (↑a : Int)), (6, iA (↑b : Int))], h := (arrE E D) }), [ee], [decide ((↑b : Int) ≤ (↑n : Int)) = false]) := by kernel_rfl
theorem jt2_0 (W : World) (E : α → AV) (N : Nat) (D D1 D2 : List α) (a b n bs : Nat) : sQ W { lp := true, ol := true, tl := [111] } 100 1 [100001] [0, 1, 4] (Yst1 E N D n bs) [bt, ee, .loopM [] [] (Yst0 E N D n bs 0 b) (.exit 4) { t := [(0, dT N), (1, iA (↑n : Int)), (4, iA (↑bs : Int)), (5, iA (↑a : Int))], h := arrE E D1 }, bt, ee, .lg, ee, cR (.tup []) (arrE E D2), ee] = .ok ((.normal, { t := [(0, dT N), (1, iA (↑n : Int)), (4, iA (IntKind.i64.wrap ((↑bs : Int) * 2)))], h := (arrE E D2) }), [ee], [MZ W 111 [dT N, iA (↑a : Int), iA (IntKind.i64.wrap ((↑a : Int) + (↑bs : Int))), iA (↑n : Int)] (arrE E D1) (.ret (.tup []) (arrE E D2)), cloHs (arrE E D1), decide (IntKind.i64.wrap ((↑a : Int) + (↑bs : Int)) < (↑n : Int)) = true, LZ W [100001] 100 2 (Yst0 E N D n bs 0 b) (.exit 4) { t := [(0, dT N), (1, iA (↑n : Int)), (4, iA (↑bs : Int)), (5, iA (↑a : Int))], h := arrE E D1 }, MatchK [100001] [] [] { t := [(0, dT N), (1, iA (↑n : Int)), (4, iA (↑bs : Int)), (5, iA 0), (6, iA (IntKind.i64.wrap (2 * (↑bs : Int))))], h := (arrE E D) } (Yst0 E N D n bs 0 b), decide ((↑bs : Int) < (↑n : Int)) = true]) := by kernel_rfl
theorem jt2_1 (W : World) (E : α → AV) (N : Nat) (D D1 : List α) (a b n bs : Nat) : sQ W { lp := true, ol := true, tl := [111] } 100 1 [100001] [0, 1, 4] (Yst1 E N D n bs) [bt, ee, .loopM [] [] (Yst0 E N D n bs 0 b) (.exit 4) { t := [(0, dT N), (1, iA (↑n : Int)), (4, iA (↑bs : Int)), (5, iA (↑a : Int))], h := arrE E D1 }, bf, ee] = .ok ((.normal, { t := [(0, dT N), (1, iA (↑n : Int)), (4, iA (IntKind.i64.wrap ((↑bs : Int) * 2)))], h := (arrE E D1) }), [ee], [decide (IntKind.i64.wrap ((↑a : Int) + (↑bs : Int)) < (↑n : Int)) = false, LZ W [100001] 100 2 (Yst0 E N D n bs 0 b) (.exit 4) { t := [(0, dT N), (1, iA (↑n : Int)), (4, iA (↑bs : Int)), (5, iA (↑a : Int))], h := arrE E D1 }, MatchK [100001] [] [] { t := [(0, dT N), (1, iA (↑n : Int)), (4, iA (↑bs : Int)), (5, iA 0), (6, iA (IntKind.i64.wrap (2 * (↑bs : Int))))], h := (arrE E D) } (Yst0 E N D n bs 0 b), decide ((↑bs : Int) < (↑n : Int)) = true]) := by kernel_rfl
theorem jt2_2 (W : World) (E : α → AV) (N : Nat) (D : List α) (n bs : Nat) : sQ W { lp := true, ol := true, tl := [111] } 100 1 [100001] [0, 1, 4] (Yst1 E N D n bs) [bf, ee] = .ok ((.exit 2, { t := [(0, dT N), (1, iA (↑n : Int)), (4, iA (↑bs : Int))], h := (arrE E D) }), [ee], [decide ((↑bs : Int) < (↑n : Int)) = false]) := by kernel_rfl
end
theorem zhJ {p : Prop} (h : p := by and_intros <;> first | exact trivial | exact gOK_eq rfl rfl rfl | exact gOK_arr rfl rfl rfl (by assumption) | exact gOK_arr rfl rfl rfl (hcl _)) : p := h
theorem zlJ {φ ph x y} (h : LeP φ ph x y := by first | exact .eq rfl rfl | exact .same (by rw [hws]; rfl) rfl | exact .same (by rw [hws2]; rfl) rfl | exact .same (by rw [hws3]; rfl) rfl) : LeP φ ph x y := h
theorem ztJ {p : Prop} (h : p := by and_intros <;> first | exact trivial | exact zlJ) : p := h
theorem zvJ {p : Prop} (h : p := by and_intros <;> first | rfl | exact trivial | exact allN_clo zb | exact allN_cloL (hcl _)) : p := h
theorem Sj_z1 {kp f ph σ σ'} (h : MatchK kp f ph σ σ' := by exact ⟨by rfl, (by simp only [dT, arrE, Yins, Zins, Yswp, Yrot, Ysy0, Ysy1, Ysy2, Ysy3, Ysy4, Yst0, Yst1, Yest, tOK, List.map_cons, List.map_nil, and_true] <;> exact ztJ), (by simp only [dT, arrE, Yins, Zins, Yswp, Yrot, Ysy0, Ysy1, Ysy2, Ysy3, Ysy4, Yst0, Yst1, Yest, hOK, List.map_cons, List.map_nil, and_true] <;> exact zhJ), (by simp only [dT, arrE, Yins, Zins, Yswp, Yrot, Ysy0, Ysy1, Ysy2, Ysy3, Ysy4, Yst0, Yst1, Yest, liveT, List.map_cons, List.map_nil, and_true] <;> exact zvJ), (by simp only [dT, arrE, Yins, Zins, Yswp, Yrot, Ysy0, Ysy1, Ysy2, Ysy3, Ysy4, Yst0, Yst1, Yest, liveH, List.map_cons, List.map_nil, and_true] <;> exact zvJ)⟩) : MatchK kp f ph σ σ' := h
theorem Sj_z2 {cs} (h : Holds cs := by simp only [Holds, cloHs, arrE, and_true] <;> and_intros <;> first | assumption | exact hcl _ | exact decide_eq_true (by omega) | exact decide_eq_false (by omega) | omega | exact trivial | (constructor <;> omega) | exact Sj_z1) : Holds cs := h
theorem wrapS {n m : Int} (h : n = m) (h1 : -(2 ^ 62) ≤ m) (h2 : m ≤ 2 ^ 62) : IntKind.i64.wrap n = m := by subst h; exact IntWalk.i64_in _ (by omega)
theorem midW {i j : Nat} (h : i + j ≤ 2 ^ 60) : IntKind.i64.wrap ((IntKind.u64.wrap (IntKind.i64.wrap ((i : Int) + (j : Int)))).fdiv 2) = (((i + j) / 2 : Nat) : Int) := by
  have h1 : IntKind.i64.wrap ((i : Int) + (j : Int)) = ((i + j : Nat) : Int) := wrapS (by omega) (by omega) (by omega)
  rw [h1]
  have h2 : IntKind.u64.wrap ((i + j : Nat) : Int) = ((i + j : Nat) : Int) := by
    exact IntWalk.u64_in _ (by omega)
  rw [h2]
  have h3 : Int.fdiv ((i + j : Nat) : Int) 2 = (((i + j) / 2 : Nat) : Int) := by
    rw [Int.fdiv_eq_ediv_of_nonneg _ (by omega)]; omega
  rw [h3]
  exact wrapS rfl (by omega) (by omega)
structure SrtI (W : World) {α : Type} (E : α → AV) (lt : α → α → Bool) (N : Nat) : Prop where
  cl : ∀ D : List α, cloL (D.map E) = true
  less : ∀ (D : List α) (i j : Nat), D.length = N → i < N → j < N → MutC Tryz.prog W 167 [.gs 100001 0 N, iA i, iA j] (arrE E D) (.ret (bA (ltAt lt D i j)) (arrE E D))
  swap : ∀ (D : List α) (i j : Nat), D.length = N → i < N → j < N → MutC Tryz.prog W 168 [.gs 100001 0 N, iA i, iA j] (arrE E D) (.ret (.tup []) (arrE E (swapL D i j)))
  len : ∀ D : List α, D.length = N → MutC Tryz.prog W 166 [.gs 100001 0 N] (arrE E D) (.ret (iA N) (arrE E D))
section
variable (W : World) {α : Type} {E : α → AV} {N : Nat} {lt : α → α → Bool} (hI : SrtI W E lt N)
theorem callSWP : callable Tryz.prog 132 = true := by kernel_rfl
theorem callROT : callable Tryz.prog 122 = true := by kernel_rfl
theorem callINS : callable Tryz.prog 110 = true := by kernel_rfl
theorem callSYM : callable Tryz.prog 111 = true := by kernel_rfl
theorem callST : callable Tryz.prog 100 = true := by kernel_rfl
theorem callSF : callable Tryz.prog 84 = true := by kernel_rfl
theorem swpG_len (a b : Nat) : ∀ (k i : Nat) (D : List α), (swpG a b k i D).length = D.length
  | 0, _, _ => rfl
  | k + 1, i, D => by rw [swpG, swpG_len a b k, swapL_len]
theorem insJ_len (lt : α → α → Bool) (a : Nat) : ∀ (j : Nat) (D : List α), (insJ lt a j D).length = D.length
  | 0, _ => rfl
  | j + 1, D => by
    rw [insJ]
    split
    · rw [insJ_len lt a j, swapL_len]
    · rfl
theorem jnsO_len (lt : α → α → Bool) (a : Nat) : ∀ (k i : Nat) (D : List α), (insO lt a k i D).length = D.length
  | 0, _, _ => rfl
  | k + 1, i, D => by rw [insO, jnsO_len lt a k, insJ_len]
theorem rotG_len (m : Nat) : ∀ (f i j : Nat) (D : List α), (rotG m f i j D).length = D.length
  | 0, _, _, _ => rfl
  | f + 1, i, j, D => by
    rw [rotG]
    split
    · exact swpG_len _ _ _ _ _
    · split
      · rw [rotG_len m f, swpG_len]
      · rw [rotG_len m f, swpG_len]
include hI
theorem loopSwp (a b n : Nat) : ∀ (k i : Nat) (D : List α), n - i = k → i ≤ n → a + n ≤ D.length → b + n ≤ D.length → D.length ≤ 2 ^ 40 → D.length = N → LoopC Tryz.prog W [100001] (nslots Tryz.prog 132) (loopOf Tryz.prog 132 0) (Yswp E N D a b n i) (.exit 0) (Yest E (swpG a b k i D)) := by
  have hcl := hI.cl
  intro k
  induction k with
  | zero =>
    intro i D hk hi h1 h2 h3 hN
    exact loop_last (by simp) (body_of_sbodyK mixedz (jwpI_1 W E N D a b n i) Sj_z2 [] [] Sj_z1)
  | succ k ih =>
    intro i D hk hi h1 h2 h3 hN
    have w1 : IntKind.i64.wrap ((a : Int) + (i : Int)) = ((a + i : Nat) : Int) := wrapS (by omega) (by omega) (by omega)
    have w2 : IntKind.i64.wrap ((b : Int) + (i : Int)) = ((b + i : Nat) : Int) := wrapS (by omega) (by omega) (by omega)
    have hws : IntKind.i64.wrap ((i : Int) + 1) = ((i + 1 : Nat) : Int) := wrap_succ (by omega)
    have hS := hI.swap D (a + i) (b + i) hN (by omega) (by omega)
    have hl := swapL_len D (a + i) (b + i)
    have nx := ih (i + 1) (swapL D (a + i) (b + i)) (by omega) (by omega) (by omega) (by omega) (by omega) (by omega)
    have hb := jwpI_0 W E N D (swapL D (a + i) (b + i)) a b n i
    rw [w1, w2] at hb
    exact loop_next (body_of_sbodyK mixedz hb (by clear hb nx ih; exact Sj_z2) [] [] (σ3 := Yswp E N (swapL D (a + i) (b + i)) a b n (i + 1)) (by clear hb nx ih; exact Sj_z1)) nx
theorem swpM (D : List α) (a b n : Nat) (hN : D.length = N) (h1 : a + n ≤ D.length) (h2 : b + n ≤ D.length) (h3 : D.length ≤ 2 ^ 40) : MutC Tryz.prog W 132 [dT N, iA a, iA b, iA n] (arrE E D) (.ret (.tup []) (arrE E (swpG a b n 0 D))) := by
  have hcl := hI.cl
  have hl := loopSwp W hI a b n n 0 D (by omega) (by omega) h1 h2 h3 hN
  generalize swpG a b n 0 D = D2 at hl ⊢
  exact mut_of_sfun mixedz callSWP rfl (jwpF_0 W E N D D2 a b n) Sj_z2
theorem loopRot (m : Nat) : ∀ (f i j : Nat) (D : List α), 0 < i → 0 < j → i + j ≤ f + 1 → 0 < f → i ≤ m → m + j ≤ D.length → D.length ≤ 2 ^ 40 → D.length = N → ∃ (D1 : List α) (k : Nat), LoopC Tryz.prog W [100001] (nslots Tryz.prog 122) (loopOf Tryz.prog 122 0) (Yrot E N D m i j) (.exit 0) ⟨[(0, dT N), (2, iA m), (8, iA k)], arrE E D1⟩ ∧ swpG (m - k) m k 0 D1 = rotG m f i j D ∧ k ≤ m ∧ m + k ≤ D1.length ∧ D1.length = D.length := by
  have hcl := hI.cl
  intro f
  induction f with
  | zero => intro i j D _ _ _ h; omega
  | succ f ih =>
    intro i j D hi hj hf _ him hjm hD hN
    rw [rotG]
    by_cases e : i = j
    · have c1 : (!decide ((i : Int) = (j : Int))) = false := by rw [decide_eq_true (by omega)]; rfl
      rw [if_pos e]
      exact ⟨D, i, loop_last (by simp) (body_of_sbodyK mixedz (jotI_2 W E N D i j m) Sj_z2 [] [] Sj_z1), rfl, him, by omega, rfl⟩
    · have c1 : (!decide ((i : Int) = (j : Int))) = true := by rw [decide_eq_false (by omega)]; rfl
      have w1 : IntKind.i64.wrap ((m : Int) - (i : Int)) = ((m - i : Nat) : Int) := wrapS (by omega) (by omega) (by omega)
      rw [if_neg e]
      by_cases e2 : j < i
      · have c2 : decide ((j : Int) < (i : Int)) = true := decide_eq_true (by omega)
        have hws : IntKind.i64.wrap ((i : Int) - (j : Int)) = ((i - j : Nat) : Int) := wrapS (by omega) (by omega) (by omega)
        rw [if_pos e2]
        have hM := swpM W hI D (m - i) m j hN (by omega) (by omega) hD
        have hl := swpG_len (m - i) m j 0 D
        generalize swpG (m - i) m j 0 D = D2 at hM hl ⊢
        obtain ⟨D1, k, g1, g2, g3, g4, g5⟩ := ih (i - j) j D2 (by omega) hj (by omega) (by omega) (by omega) (by omega) (by omega) (by omega)
        have hgl := hl.symm
        have hb := jotI_0 W E N D D2 i j m
        rw [w1] at hb
        exact ⟨D1, k, loop_next (body_of_sbodyK mixedz hb (by clear hb g1; exact Sj_z2) [] [] (σ3 := Yrot E N D2 m (i - j) j) (by clear hb g1; exact Sj_z1)) g1, g2, g3, g4, by omega⟩
      · have c2 : decide ((j : Int) < (i : Int)) = false := decide_eq_false (by omega)
        have hws : IntKind.i64.wrap ((j : Int) - (i : Int)) = ((j - i : Nat) : Int) := wrapS (by omega) (by omega) (by omega)
        have w2 : IntKind.i64.wrap (IntKind.i64.wrap ((m : Int) + (j : Int)) - (i : Int)) = ((m + j - i : Nat) : Int) := by
          rw [show IntKind.i64.wrap ((m : Int) + (j : Int)) = ((m + j : Nat) : Int) from wrapS (by omega) (by omega) (by omega)]
          exact wrapS (by omega) (by omega) (by omega)
        rw [if_neg e2]
        have hM := swpM W hI D (m - i) (m + j - i) i hN (by omega) (by omega) hD
        have hl := swpG_len (m - i) (m + j - i) i 0 D
        generalize swpG (m - i) (m + j - i) i 0 D = D2 at hM hl ⊢
        obtain ⟨D1, k, g1, g2, g3, g4, g5⟩ := ih i (j - i) D2 hi (by omega) (by omega) (by omega) (by omega) (by omega) (by omega) (by omega)
        have hgl := hl.symm
        have hb := jotI_1 W E N D D2 i j m
        rw [w1, w2] at hb
        exact ⟨D1, k, loop_next (body_of_sbodyK mixedz hb (by clear hb g1; exact Sj_z2) [] [] (σ3 := Yrot E N D2 m i (j - i)) (by clear hb g1; exact Sj_z1)) g1, g2, g3, g4, by omega⟩
theorem rotM (D : List α) (a m b f : Nat) (hN : D.length = N) (h1 : a < m) (h2 : m < b) (h3 : b ≤ D.length) (h4 : D.length ≤ 2 ^ 40) (hf : (m - a) + (b - m) ≤ f + 1) (hf0 : 0 < f) : MutC Tryz.prog W 122 [dT N, iA a, iA m, iA b] (arrE E D) (.ret (.tup []) (arrE E (rotG m f (m - a) (b - m) D))) := by
  have hcl := hI.cl
  obtain ⟨D1, k, g1, g2, g3, g4, g5⟩ := loopRot W hI m f (m - a) (b - m) D (by omega) (by omega) hf hf0 (by omega) (by omega) h4 hN
  have hM := swpM W hI D1 (m - k) m k (by omega) (by omega) (by omega) (by omega)
  rw [g2] at hM
  generalize rotG m f (m - a) (b - m) D = D2 at hM ⊢
  have w1 : IntKind.i64.wrap ((m : Int) - (k : Int)) = ((m - k : Nat) : Int) := wrapS (by omega) (by omega) (by omega)
  have hws : IntKind.i64.wrap ((m : Int) - (a : Int)) = ((m - a : Nat) : Int) := wrapS (by omega) (by omega) (by omega)
  have hws2 : IntKind.i64.wrap ((b : Int) - (m : Int)) = ((b - m : Nat) : Int) := wrapS (by omega) (by omega) (by omega)
  have hb := jotF_0 W E N D D1 D2 a b (m - a) (b - m) k m
  rw [w1] at hb
  exact mut_of_sfun mixedz callROT rfl hb (by clear hb; exact Sj_z2)
theorem loopInsI (a b i : Nat) : ∀ (j : Nat) (D : List α), j < D.length → D.length ≤ 2 ^ 40 → D.length = N → LoopC Tryz.prog W [100001] (nslots Tryz.prog 110) (loopOf Tryz.prog 110 1) (Zins E N D a b i j) (.exit 2) (Yins E N (insJ lt a j D) a b i) := by
  have hcl := hI.cl
  intro j
  induction j with
  | zero =>
    intro D hj hD hN
    exact loop_last (by simp) (body_of_sbodyK mixedz (jnsI_2 W E N D a b i 0) Sj_z2 [] [] Sj_z1)
  | succ j ih =>
    intro D hj hD hN
    rw [insJ]
    by_cases ha : a < j + 1
    case neg =>
      rw [if_neg (by rintro ⟨q, _⟩; exact ha q)]
      exact loop_last (by simp) (body_of_sbodyK mixedz (jnsI_2 W E N D a b i (j + 1)) Sj_z2 [] [] Sj_z1)
    have hws : IntKind.i64.wrap (((j + 1 : Nat) : Int) - 1) = (j : Int) := wrapS (by omega) (by omega) (by omega)
    have hL := hI.less D (j + 1) j hN (by omega) (by omega)
    have hS := hI.swap D (j + 1) j hN (by omega) (by omega)
    have hl := swapL_len D (j + 1) j
    generalize hlt : ltAt lt D (j + 1) j = g at hL ⊢
    cases g with
    | true =>
      rw [if_pos ⟨ha, rfl⟩]
      have nx := ih (swapL D (j + 1) j) (by omega) (by omega) (by omega)
      have hb := jnsI_0 W E N D (swapL D (j + 1) j) a b i (j + 1) true
      rw [hws] at hb
      exact loop_next (body_of_sbodyK mixedz hb (by clear hb nx ih; exact Sj_z2) [] [] (σ3 := Zins E N (swapL D (j + 1) j) a b i j) (by clear hb nx ih; exact Sj_z1)) nx
    | false =>
      rw [if_neg (by rintro ⟨_, q⟩; cases q)]
      have hb := jnsI_1 W E N D a b i (j + 1) false
      rw [hws] at hb
      exact loop_last (by simp) (body_of_sbodyK mixedz hb (by clear hb ih; exact Sj_z2) [] [] (by clear hb ih; exact Sj_z1))
theorem loopInsO (a b : Nat) : ∀ (k i : Nat) (D : List α), b - i = k → b ≤ D.length → D.length ≤ 2 ^ 40 → D.length = N → LoopC Tryz.prog W [100001] (nslots Tryz.prog 110) (loopOf Tryz.prog 110 0) (Yins E N D a b i) (.exit 0) (Yest E (insO lt a k i D)) := by
  have hcl := hI.cl
  intro k
  induction k with
  | zero =>
    intro i D hk hb hD hN
    exact loop_last (by simp) (body_of_sbodyK mixedz (jnsO_1 W E N D a b i) Sj_z2 [] [] Sj_z1)
  | succ k ih =>
    intro i D hk hb hD hN
    have hws : IntKind.i64.wrap ((i : Int) + 1) = ((i + 1 : Nat) : Int) := wrap_succ (by omega)
    have hl := loopInsI W hI a b i i D (by omega) hD hN
    have h2 := insJ_len lt a i D
    rw [insO]
    have nx := ih (i + 1) (insJ lt a i D) (by omega) (by omega) (by omega) (by omega)
    generalize insJ lt a i D = D2 at hl h2 nx ⊢
    exact loop_next (body_of_sbodyK mixedz (jnsO_0 W E N D D2 a b i) (by clear nx; exact Sj_z2) [] [] (σ3 := Yins E N D2 a b (i + 1)) (by clear nx; exact Sj_z1)) nx
theorem insM (D : List α) (a b : Nat) (hN : D.length = N) (h1 : b ≤ D.length) (h2 : D.length ≤ 2 ^ 40) (ha : a ≤ b) : MutC Tryz.prog W 110 [dT N, iA a, iA b] (arrE E D) (.ret (.tup []) (arrE E (insO lt a (b - (a + 1)) (a + 1) D))) := by
  have hcl := hI.cl
  have hl := loopInsO W hI a b (b - (a + 1)) (a + 1) D rfl h1 h2 hN
  generalize insO lt a (b - (a + 1)) (a + 1) D = D2 at hl ⊢
  have hws : IntKind.i64.wrap ((a : Int) + 1) = ((a + 1 : Nat) : Int) := wrap_succ (by omega)
  exact mut_of_sfun mixedz callINS rfl (jnsF_0 W E N D D2 a b) Sj_z2
theorem loopSy0 (D : List α) (a : Nat) (ha : a < D.length) (hD : D.length ≤ 2 ^ 40) (hN : D.length = N) : ∀ (f i j : Nat), j ≤ f + i → i ≤ j → j ≤ D.length →
    LoopC Tryz.prog W [100001] (nslots Tryz.prog 111) (loopOf Tryz.prog 111 0) (Ysy0 E N D a i j) (.exit 0) ⟨[(0, dT N), (1, iA a), (8, iA (bsG (fun h => ltAt lt D h a) f i j : Nat))], arrE E D⟩ := by
  have hcl := hI.cl
  intro f
  induction f with
  | zero =>
    intro i j h1 h2 h3
    exact loop_last (by simp) (body_of_sbodyK mixedz (jy0_2 W E N D a i j) Sj_z2 [] [] Sj_z1)
  | succ f ih =>
    intro i j h1 h2 h3
    rw [bsG]
    by_cases hij : i < j
    case neg =>
      rw [if_neg hij]
      exact loop_last (by simp) (body_of_sbodyK mixedz (jy0_2 W E N D a i j) Sj_z2 [] [] Sj_z1)
    rw [if_pos hij]
    have hmw := midW (i := i) (j := j) (by omega)
    have n1 := fun h => ih ((i + j) / 2 + 1) j h (by omega) h3
    have n2 := fun h => ih i ((i + j) / 2) h (by omega) (by omega)
    have b1 : i ≤ (i + j) / 2 ∧ (i + j) / 2 < j := by omega
    generalize (i + j) / 2 = c at *
    have hws : IntKind.i64.wrap ((c : Int) + 1) = ((c + 1 : Nat) : Int) := wrap_succ (by omega)
    have hL := hI.less D c a hN (by omega) (by omega)
    cases hlt : ltAt lt D c a with
    | true =>
      rw [hlt] at hL
      rw [if_pos rfl]
      have nx := n1 (by omega)
      have hb := jy0_0 W E N D a i j true
      rw [hmw] at hb
      exact loop_next (body_of_sbodyK mixedz hb (by clear hb nx n1 n2 ih; exact Sj_z2) [] [] (σ3 := Ysy0 E N D a (c + 1) j) (by clear hb nx n1 n2 ih; exact Sj_z1)) nx
    | false =>
      rw [hlt] at hL
      rw [if_neg (by simp)]
      have nx := n2 (by omega)
      have hb := jy0_1 W E N D a i j false
      rw [hmw] at hb
      exact loop_next (body_of_sbodyK mixedz hb (by clear hb nx n1 n2 ih; exact Sj_z2) [] [] (σ3 := Ysy0 E N D a i c) (by clear hb nx n1 n2 ih; exact Sj_z1)) nx
theorem loopSy2 (D : List α) (m : Nat) (hm : m < D.length) (hD : D.length ≤ 2 ^ 40) (hN : D.length = N) : ∀ (f i j : Nat), j ≤ f + i → i ≤ j → j ≤ D.length →
    LoopC Tryz.prog W [100001] (nslots Tryz.prog 111) (loopOf Tryz.prog 111 2) (Ysy2 E N D m i j) (.exit 4) ⟨[(0, dT N), (2, iA m), (12, iA (bsG (fun h => !ltAt lt D m h) f i j : Nat))], arrE E D⟩ := by
  have hcl := hI.cl
  intro f
  induction f with
  | zero =>
    intro i j h1 h2 h3
    exact loop_last (by simp) (body_of_sbodyK mixedz (jy2_2 W E N D i j m) Sj_z2 [] [] Sj_z1)
  | succ f ih =>
    intro i j h1 h2 h3
    rw [bsG]
    by_cases hij : i < j
    case neg =>
      rw [if_neg hij]
      exact loop_last (by simp) (body_of_sbodyK mixedz (jy2_2 W E N D i j m) Sj_z2 [] [] Sj_z1)
    rw [if_pos hij]
    have hmw := midW (i := i) (j := j) (by omega)
    have n1 := fun h => ih ((i + j) / 2 + 1) j h (by omega) h3
    have n2 := fun h => ih i ((i + j) / 2) h (by omega) (by omega)
    have b1 : i ≤ (i + j) / 2 ∧ (i + j) / 2 < j := by omega
    generalize (i + j) / 2 = c at *
    have hws : IntKind.i64.wrap ((c : Int) + 1) = ((c + 1 : Nat) : Int) := wrap_succ (by omega)
    have hL := hI.less D m c hN (by omega) (by omega)
    have t1 : (!false) = true := rfl
    have t2 : (!true) = false := rfl
    cases hlt : ltAt lt D m c with
    | false =>
      rw [hlt] at hL
      rw [if_pos (show (!false) = true from rfl)]
      have nx := n1 (by omega)
      have hb := jy2_0 W E N D i j m false
      rw [hmw] at hb
      exact loop_next (body_of_sbodyK mixedz hb (by clear hb nx n1 n2 ih; exact Sj_z2) [] [] (σ3 := Ysy2 E N D m (c + 1) j) (by clear hb nx n1 n2 ih; exact Sj_z1)) nx
    | true =>
      rw [hlt] at hL
      rw [if_neg (by simp)]
      have nx := n2 (by omega)
      have hb := jy2_1 W E N D i j m true
      rw [hmw] at hb
      exact loop_next (body_of_sbodyK mixedz hb (by clear hb nx n1 n2 ih; exact Sj_z2) [] [] (σ3 := Ysy2 E N D m i c) (by clear hb nx n1 n2 ih; exact Sj_z1)) nx
theorem loopSy4 (D : List α) (a m b mid q p st0 : Nat) (hp : p ≤ 2 ^ 41) (hD : D.length ≤ 2 ^ 40) (hN : D.length = N) : ∀ (f i j : Nat), j ≤ f + i → i ≤ j → st0 ≤ i → j ≤ D.length → j ≤ p + 1 → p < D.length + st0 →
    LoopC Tryz.prog W [100001] (nslots Tryz.prog 111) (loopOf Tryz.prog 111 4) (Ysy4 E N D a m b mid q i j p) (.exit 8) ⟨[(0, dT N), (1, iA a), (2, iA m), (3, iA b), (16, iA mid), (17, iA q), (18, iA (bsG (fun c => !ltAt lt D (p - c) c) f i j : Nat))], arrE E D⟩ := by
  have hcl := hI.cl
  intro f
  induction f with
  | zero =>
    intro i j h1 h2 h3 h4 h5 h6
    exact loop_last (by simp) (body_of_sbodyK mixedz (jy4_2 W E N D a b q i j m p mid) Sj_z2 [] [] Sj_z1)
  | succ f ih =>
    intro i j h1 h2 h3 h4 h5 h6
    rw [bsG]
    by_cases hij : i < j
    case neg =>
      rw [if_neg hij]
      exact loop_last (by simp) (body_of_sbodyK mixedz (jy4_2 W E N D a b q i j m p mid) Sj_z2 [] [] Sj_z1)
    rw [if_pos hij]
    have hmw := midW (i := i) (j := j) (by omega)
    have n1 := fun h => ih ((i + j) / 2 + 1) j h (by omega) (by omega) h4 h5 h6
    have n2 := fun h => ih i ((i + j) / 2) h (by omega) h3 (by omega) (by omega) h6
    have b1 : i ≤ (i + j) / 2 ∧ (i + j) / 2 < j := by omega
    generalize (i + j) / 2 = c at *
    have hpc : IntKind.i64.wrap ((p : Int) - (c : Int)) = ((p - c : Nat) : Int) := wrapS (by omega) (by omega) (by omega)
    have hws : IntKind.i64.wrap ((c : Int) + 1) = ((c + 1 : Nat) : Int) := wrap_succ (by omega)
    have hL := hI.less D (p - c) c hN (by omega) (by omega)
    have t1 : (!false) = true := rfl
    have t2 : (!true) = false := rfl
    cases hlt : ltAt lt D (p - c) c with
    | false =>
      rw [hlt] at hL
      rw [if_pos (show (!false) = true from rfl)]
      have nx := n1 (by omega)
      have hb := jy4_0 W E N D a b q i j m p mid false
      rw [hmw, hpc] at hb
      exact loop_next (body_of_sbodyK mixedz hb (by clear hb nx n1 n2 ih; exact Sj_z2) [] [] (σ3 := Ysy4 E N D a m b mid q (c + 1) j p) (by clear hb nx n1 n2 ih; exact Sj_z1)) nx
    | true =>
      rw [hlt] at hL
      rw [if_neg (by simp)]
      have nx := n2 (by omega)
      have hb := jy4_1 W E N D a b q i j m p mid true
      rw [hmw, hpc] at hb
      exact loop_next (body_of_sbodyK mixedz hb (by clear hb nx n1 n2 ih; exact Sj_z2) [] [] (σ3 := Ysy4 E N D a m b mid q i c p) (by clear hb nx n1 n2 ih; exact Sj_z1)) nx
theorem loopUp (i : Nat) : ∀ (t k : Nat) (D : List α), i - 1 - k = t → 1 ≤ i → i ≤ D.length → D.length ≤ 2 ^ 40 → D.length = N → LoopC Tryz.prog W [100001] (nslots Tryz.prog 111) (loopOf Tryz.prog 111 1) (Ysy1 E N D i k) (.exit 2) (Yest E (upG t k D)) := by
  have hcl := hI.cl
  intro t
  induction t with
  | zero =>
    intro k D hk h1 h2 h3 hN
    have w1 : IntKind.i64.wrap ((i : Int) - 1) = ((i - 1 : Nat) : Int) := wrapS (by omega) (by omega) (by omega)
    have hb := jy1_1 W E N D k i
    rw [w1] at hb
    exact loop_last (by simp) (body_of_sbodyK mixedz hb (by clear hb; exact Sj_z2) [] [] (by clear hb; exact Sj_z1))
  | succ t ih =>
    intro k D hk h1 h2 h3 hN
    have w1 : IntKind.i64.wrap ((i : Int) - 1) = ((i - 1 : Nat) : Int) := wrapS (by omega) (by omega) (by omega)
    have hws : IntKind.i64.wrap ((k : Int) + 1) = ((k + 1 : Nat) : Int) := wrap_succ (by omega)
    have hS := hI.swap D k (k + 1) hN (by omega) (by omega)
    have hl := swapL_len D k (k + 1)
    rw [upG]
    have nx := ih (k + 1) (swapL D k (k + 1)) (by omega) h1 (by omega) (by omega) (by omega)
    have hb := jy1_0 W E N D (swapL D k (k + 1)) k i
    rw [w1, hws] at hb
    exact loop_next (body_of_sbodyK mixedz hb (by clear hb nx ih; exact Sj_z2) [] [] (σ3 := Ysy1 E N (swapL D k (k + 1)) i (k + 1)) (by clear hb nx ih; exact Sj_z1)) nx
theorem loopDn (i : Nat) : ∀ (t k : Nat) (D : List α), k - i = t → k < D.length → D.length ≤ 2 ^ 40 → D.length = N → LoopC Tryz.prog W [100001] (nslots Tryz.prog 111) (loopOf Tryz.prog 111 3) (Ysy3 E N D i k) (.exit 6) (Yest E (dnG t k D)) := by
  have hcl := hI.cl
  intro t
  induction t with
  | zero =>
    intro k D hk h2 h3 hN
    exact loop_last (by simp) (body_of_sbodyK mixedz (jy3_1 W E N D i k) Sj_z2 [] [] Sj_z1)
  | succ t ih =>
    intro k D hk h2 h3 hN
    have hws : IntKind.i64.wrap ((k : Int) - 1) = ((k - 1 : Nat) : Int) := wrapS (by omega) (by omega) (by omega)
    have hS := hI.swap D k (k - 1) hN (by omega) (by omega)
    have hl := swapL_len D k (k - 1)
    rw [dnG]
    have nx := ih (k - 1) (swapL D k (k - 1)) (by omega) (by omega) (by omega) (by omega)
    have hb := jy3_0 W E N D (swapL D k (k - 1)) i k
    rw [hws] at hb
    exact loop_next (body_of_sbodyK mixedz hb (by clear hb nx ih; exact Sj_z2) [] [] (σ3 := Ysy3 E N (swapL D k (k - 1)) i (k - 1)) (by clear hb nx ih; exact Sj_z1)) nx
omit hI
theorem upG_len : ∀ (k i : Nat) (D : List α), (upG k i D).length = D.length
  | 0, _, _ => rfl
  | k + 1, i, D => by rw [upG, upG_len k, swapL_len]
theorem dnG_len : ∀ (k i : Nat) (D : List α), (dnG k i D).length = D.length
  | 0, _, _ => rfl
  | k + 1, i, D => by rw [dnG, dnG_len k, swapL_len]
theorem symM_len (lt : α → α → Bool) : ∀ (f a m b : Nat) (D : List α), (symM lt f a m b D).length = D.length
  | 0, _, _, _, _ => rfl
  | f + 1, a, m, b, D => by
    rw [symM]
    split
    · exact upG_len _ _ _
    · split
      · exact dnG_len _ _ _
      · dsimp only
        have h2 : ∀ (c : Prop) [Decidable c] (x y z : Nat) (E : List α), (if c then symM lt f x y z E else E).length = E.length := fun c _ x y z E => by
          split
          · exact symM_len lt f _ _ _ _
          · rfl
        have h1 : ∀ (c : Prop) [Decidable c] (x y z w : Nat) (E : List α), (if c then rotG x y z w E else E).length = E.length := fun c _ x y z w E => by
          split
          · exact rotG_len _ _ _ _ _
          · rfl
        rw [h2, h2, h1]
include hI
theorem symMM : ∀ (f : Nat) (D : List α) (a m b : Nat), D.length = N → a < m → m < b → b ≤ D.length → b - a ≤ f → D.length ≤ 2 ^ 40 →
    MutC Tryz.prog W 111 [dT N, iA a, iA m, iA b] (arrE E D) (.ret (.tup []) (arrE E (symM lt f a m b D))) := by
  intro f
  induction f with
  | zero => intro D a m b _ _ _ _ h; omega
  | succ f ih =>
    intro D a m b hN h1 h2 h3 hf hD
    have hcl := hI.cl
    have wma : IntKind.i64.wrap ((m : Int) - (a : Int)) = ((m - a : Nat) : Int) := wrapS (by omega) (by omega) (by omega)
    have wbm : IntKind.i64.wrap ((b : Int) - (m : Int)) = ((b - m : Nat) : Int) := wrapS (by omega) (by omega) (by omega)
    by_cases c1 : m - a = 1
    · have l0 := loopSy0 W hI D a (by omega) hD hN b m b (by omega) (by omega) h3
      obtain ⟨k, hk, k1, k2, _, _⟩ := bsG_ok (fun h => ltAt lt D h a) b m b (by omega) (by omega)
      rw [symM, if_pos c1]
      rw [hk] at l0 ⊢
      have l1 := loopUp W hI k (k - 1 - a) a D rfl (by omega) (by omega) hD hN
      generalize upG (k - 1 - a) a D = D2 at l1 ⊢
      have hb := jymA_0 W E N D D2 a b k m
      rw [wma] at hb
      exact mut_of_sfun mixedz callSYM rfl hb (by clear hb ih hk; exact Sj_z2)
    by_cases c2 : b - m = 1
    · have l0 := loopSy2 W hI D m (by omega) hD hN b a m (by omega) (by omega) (by omega)
      obtain ⟨k, hk, k1, k2, _, _⟩ := bsG_ok (fun h => !ltAt lt D m h) b a m (by omega) (by omega)
      rw [symM, if_neg c1, if_pos c2]
      rw [hk] at l0 ⊢
      have l1 := loopDn W hI k (m - k) m D rfl (by omega) hD hN
      generalize dnG (m - k) m D = D2 at l1 ⊢
      have hb := jymB_0 W E N D D2 a b k m
      rw [wma, wbm] at hb
      exact mut_of_sfun mixedz callSYM rfl hb (by clear hb ih hk; exact Sj_z2)
    have hmw := midW (i := a) (j := b) (by omega)
    have hS : ∀ mid st en st0 r0 D1 D2 D3, (a + b) / 2 = mid → (if mid < m then mid + m - b else a) = st0 → (if mid < m then mid else m) = r0 → bsG (fun c => !ltAt lt D (mid + m - 1 - c) c) b st0 r0 = st → mid + m - st = en →
        (if st < m ∧ m < en then rotG m b (m - st) (en - m) D else D) = D1 → (if a < st ∧ st < mid then symM lt f a st mid D1 else D1) = D2 → (if mid < en ∧ en < b then symM lt f mid en b D2 else D2) = D3 → symM lt (f + 1) a m b D = D3 := by
      intro mid st en st0 r0 D1 D2 D3 e1 e2 e3 e4 e5 e6 e7 e8
      rw [symM, if_neg c1, if_neg c2]
      dsimp only
      rw [e1, e2, e3, e4, e5, e6, e7, e8]
    have hmid : (a + b) / 2 = (a + b) / 2 := rfl
    generalize hmd : (a + b) / 2 = mid at *
    generalize hst0 : (if mid < m then mid + m - b else a) = st0 at *
    generalize hr0 : (if mid < m then mid else m) = r0 at *
    have hb0 : a ≤ st0 ∧ st0 ≤ r0 ∧ r0 ≤ m ∧ mid + m ≤ st0 + b ∧ r0 ≤ mid := by
      split at hst0 <;> split at hr0 <;> omega
    have l4 := loopSy4 W hI D a m b mid (mid + m) (mid + m - 1) st0 (by omega) hD hN b st0 r0 (by omega) (by omega) (Nat.le_refl _) (by omega) (by omega) (by omega)
    obtain ⟨st, hst, s1, s2, _, _⟩ := bsG_ok (fun c => !ltAt lt D (mid + m - 1 - c) c) b st0 r0 (by omega) (by omega)
    rw [hst] at l4
    have hSS := hS mid st (mid + m - st) st0 r0 _ _ _ rfl hst0 hr0 hst rfl rfl rfl rfl
    have wen : IntKind.i64.wrap (((mid + m : Nat) : Int) - (st : Int)) = ((mid + m - st : Nat) : Int) := wrapS (by omega) (by omega) (by omega)
    have wn : IntKind.i64.wrap ((mid : Int) + (m : Int)) = ((mid + m : Nat) : Int) := wrapS (by omega) (by omega) (by omega)
    have wp : IntKind.i64.wrap (((mid + m : Nat) : Int) - 1) = ((mid + m - 1 : Nat) : Int) := wrapS (by omega) (by omega) (by omega)
    rw [hSS]
    clear hSS hS
    generalize hen : mid + m - st = en at *
    have k1 : st < m → st < mid → MutC Tryz.prog W 122 [dT N, iA st, iA m, iA en] (arrE E D) (.ret (.tup []) (arrE E (if st < m ∧ m < en then rotG m b (m - st) (en - m) D else D))) := fun q1 q2 => by
      rw [if_pos ⟨q1, by omega⟩]
      exact rotM W hI D st m en b hN q1 (by omega) (by omega) hD (by omega) (by omega)
    have n1 : ¬ (st < m ∧ st < mid) → (if st < m ∧ m < en then rotG m b (m - st) (en - m) D else D) = D := fun q => if_neg (by omega)
    have e1 : (if st < m ∧ m < en then rotG m b (m - st) (en - m) D else D).length = D.length := by
      split
      · exact rotG_len _ _ _ _ _
      · rfl
    generalize (if st < m ∧ m < en then rotG m b (m - st) (en - m) D else D) = D1 at *
    have k2 : a < st → st < mid → MutC Tryz.prog W 111 [dT N, iA a, iA st, iA mid] (arrE E D1) (.ret (.tup []) (arrE E (if a < st ∧ st < mid then symM lt f a st mid D1 else D1))) := fun q1 q2 => by
      rw [if_pos ⟨q1, q2⟩]
      exact ih D1 a st mid (by omega) q1 q2 (by omega) (by omega) (by omega)
    have n2 : ¬ (a < st ∧ st < mid) → (if a < st ∧ st < mid then symM lt f a st mid D1 else D1) = D1 := fun q => if_neg q
    have e2 : (if a < st ∧ st < mid then symM lt f a st mid D1 else D1).length = D.length := by
      split
      · rw [symM_len]; exact e1
      · exact e1
    generalize (if a < st ∧ st < mid then symM lt f a st mid D1 else D1) = D2 at *
    have k3 : st < m → en < b → MutC Tryz.prog W 111 [dT N, iA mid, iA en, iA b] (arrE E D2) (.ret (.tup []) (arrE E (if mid < en ∧ en < b then symM lt f mid en b D2 else D2))) := fun q1 q2 => by
      rw [if_pos ⟨by omega, q2⟩]
      exact ih D2 mid en b (by omega) (by omega) q2 (by omega) (by omega) (by omega)
    have n3 : ¬ (st < m ∧ en < b) → (if mid < en ∧ en < b then symM lt f mid en b D2 else D2) = D2 := fun q => if_neg (by omega)
    generalize (if mid < en ∧ en < b then symM lt f mid en b D2 else D2) = D3 at *
    clear ih
    by_cases hlo : mid < m
    · rw [if_pos hlo] at hst0 hr0
      have wst : IntKind.i64.wrap (((mid + m : Nat) : Int) - (b : Int)) = (st0 : Int) := wrapS (by omega) (by omega) (by omega)
      have wr : r0 = mid := hr0.symm
      have p : st < m := by omega
      by_cases q : st < mid
      · have K1 := k1 p q
        by_cases b1 : a < st
        · have K2 := k2 b1 q
          by_cases cc : en < b
          · have K3 := k3 p cc
            have hb := jymLTTTT_0 W E N D D1 D2 D3 a b (mid + m) st0 r0 m (mid + m - 1) mid st
            rw [hmw, wn, wst, wp, wen, wma, wbm] at hb
            exact mut_of_sfun mixedz callSYM rfl hb (by clear hb k1 k2 k3 n1 n2 n3 hst; subst wr; exact Sj_z2)
          · obtain rfl := n3 (by omega)
            have hb := jymLTTTF_0 W E N D D1 D3 a b (mid + m) st0 r0 m (mid + m - 1) mid st
            rw [hmw, wn, wst, wp, wen, wma, wbm] at hb
            exact mut_of_sfun mixedz callSYM rfl hb (by clear hb k1 k2 k3 n1 n2 n3 hst; subst wr; exact Sj_z2)
        · obtain rfl := n2 (by omega)
          by_cases cc : en < b
          · have K3 := k3 p cc
            have hb := jymLTTFT_0 W E N D D2 D3 a b (mid + m) st0 r0 m (mid + m - 1) mid st
            rw [hmw, wn, wst, wp, wen, wma, wbm] at hb
            exact mut_of_sfun mixedz callSYM rfl hb (by clear hb k1 k2 k3 n1 n2 n3 hst; subst wr; exact Sj_z2)
          · obtain rfl := n3 (by omega)
            have hb := jymLTTFF_0 W E N D D3 a b (mid + m) st0 r0 m (mid + m - 1) mid st
            rw [hmw, wn, wst, wp, wen, wma, wbm] at hb
            exact mut_of_sfun mixedz callSYM rfl hb (by clear hb k1 k2 k3 n1 n2 n3 hst; subst wr; exact Sj_z2)
      · obtain rfl := n1 (by omega)
        obtain rfl := n2 (by omega)
        have b1 : a < st := by omega
        have cc : en < b := by omega
        have K3 := k3 p cc
        have hb := jymLTFTT_0 W E N D2 D3 a b (mid + m) st0 r0 m (mid + m - 1) mid st
        rw [hmw, wn, wst, wp, wen, wma, wbm] at hb
        exact mut_of_sfun mixedz callSYM rfl hb (by clear hb k1 k2 k3 n1 n2 n3 hst; subst wr; exact Sj_z2)
    · rw [if_neg hlo] at hst0 hr0
      have wst : st0 = a := hst0.symm
      have wr : r0 = m := hr0.symm
      by_cases p : st < m
      · have q : st < mid := by omega
        have K1 := k1 p q
        by_cases b1 : a < st
        · have K2 := k2 b1 q
          by_cases cc : en < b
          · have K3 := k3 p cc
            have hb := jymHTTTT_0 W E N D D1 D2 D3 a b (mid + m) st0 r0 m (mid + m - 1) mid st
            rw [hmw, wn, wp, wen, wma, wbm] at hb
            exact mut_of_sfun mixedz callSYM rfl hb (by clear hb k1 k2 k3 n1 n2 n3 hst; subst wst wr; exact Sj_z2)
          · obtain rfl := n3 (by omega)
            have hb := jymHTTTF_0 W E N D D1 D3 a b (mid + m) st0 r0 m (mid + m - 1) mid st
            rw [hmw, wn, wp, wen, wma, wbm] at hb
            exact mut_of_sfun mixedz callSYM rfl hb (by clear hb k1 k2 k3 n1 n2 n3 hst; subst wst wr; exact Sj_z2)
        · obtain rfl := n2 (by omega)
          by_cases cc : en < b
          · have K3 := k3 p cc
            have hb := jymHTTFT_0 W E N D D2 D3 a b (mid + m) st0 r0 m (mid + m - 1) mid st
            rw [hmw, wn, wp, wen, wma, wbm] at hb
            exact mut_of_sfun mixedz callSYM rfl hb (by clear hb k1 k2 k3 n1 n2 n3 hst; subst wst wr; exact Sj_z2)
          · obtain rfl := n3 (by omega)
            have hb := jymHTTFF_0 W E N D D3 a b (mid + m) st0 r0 m (mid + m - 1) mid st
            rw [hmw, wn, wp, wen, wma, wbm] at hb
            exact mut_of_sfun mixedz callSYM rfl hb (by clear hb k1 k2 k3 n1 n2 n3 hst; subst wst wr; exact Sj_z2)
      · obtain rfl := n1 (by omega)
        obtain rfl := n3 (by omega)
        have b1 : a < st := by omega
        by_cases q : st < mid
        · have K2 := k2 b1 q
          have hb := jymHFTTN_0 W E N D1 D3 a b (mid + m) st0 r0 m (mid + m - 1) mid st
          rw [hmw, wn, wp, wen, wma, wbm] at hb
          exact mut_of_sfun mixedz callSYM rfl hb (by clear hb k1 k2 k3 n1 n2 n3 hst; subst wst wr; exact Sj_z2)
        · obtain rfl := n2 (by omega)
          have hb := jymHFFTN_0 W E N D3 a b (mid + m) st0 r0 m (mid + m - 1) mid st
          rw [hmw, wn, wp, wen, wma, wbm] at hb
          exact mut_of_sfun mixedz callSYM rfl hb (by clear hb k1 k2 k3 n1 n2 n3 hst; subst wst wr; exact Sj_z2)
omit hI
theorem blkG_len (lt : α → α → Bool) (n : Nat) : ∀ (f a : Nat) (D : List α), (blkG lt n f a D).2.length = D.length
  | 0, _, _ => rfl
  | f + 1, a, D => by
    rw [blkG]
    split
    · rw [blkG_len lt n f, jnsO_len]
    · rfl
theorem blkG_le (lt : α → α → Bool) (n : Nat) : ∀ (f a : Nat) (D : List α), a ≤ n → (blkG lt n f a D).1 ≤ n
  | 0, _, _, h => h
  | f + 1, a, D, h => by
    rw [blkG]
    split
    · exact blkG_le lt n f _ _ (by omega)
    · exact h
theorem mrgG_len (lt : α → α → Bool) (n bs : Nat) : ∀ (f a : Nat) (D : List α), (mrgG lt n bs f a D).2.length = D.length
  | 0, _, _ => rfl
  | f + 1, a, D => by
    rw [mrgG]
    split
    · rw [mrgG_len lt n bs f, symM_len]
    · rfl
theorem mrgG_le (lt : α → α → Bool) (n bs : Nat) : ∀ (f a : Nat) (D : List α), a ≤ n → (mrgG lt n bs f a D).1 ≤ n
  | 0, _, _, h => h
  | f + 1, a, D, h => by
    rw [mrgG]
    split
    · exact mrgG_le lt n bs f _ _ (by omega)
    · exact h
theorem lvlG_len (lt : α → α → Bool) (n bs : Nat) (D : List α) : (lvlG lt n bs D).length = D.length := by
  unfold lvlG
  dsimp only
  split
  · rw [symM_len, mrgG_len]
  · rw [mrgG_len]
include hI
theorem loopSt0 (n : Nat) : ∀ (f a : Nat) (D : List α), n = D.length → D.length ≤ 2 ^ 40 → D.length = N → n ≤ f + a → a ≤ n →
    LoopC Tryz.prog W [100001] (nslots Tryz.prog 100) (loopOf Tryz.prog 100 0) (Yst0 E N D n 20 a (a + 20)) (.exit 0) ⟨[(0, dT N), (1, iA n), (4, iA 20), (5, iA ((blkG lt n f a D).1 : Nat))], arrE E (blkG lt n f a D).2⟩ := by
  have hcl := hI.cl
  intro f
  induction f with
  | zero =>
    intro a D hn hD hN hf han
    exact loop_last (by simp) (body_of_sbodyK mixedz (jt0_1 W E N D a (a + 20) n 20) Sj_z2 [] [] Sj_z1)
  | succ f ih =>
    intro a D hn hD hN hf han
    rw [blkG]
    by_cases q : a + 20 ≤ n
    case neg =>
      rw [if_neg q]
      exact loop_last (by simp) (body_of_sbodyK mixedz (jt0_1 W E N D a (a + 20) n 20) Sj_z2 [] [] Sj_z1)
    rw [if_pos q]
    have hM := insM W hI D a (a + 20) hN (by omega) hD (by omega)
    rw [show a + 20 - (a + 1) = 20 - 1 by omega] at hM
    have hl := jnsO_len lt a (20 - 1) (a + 1) D
    have nx := ih (a + 20) (insO lt a (20 - 1) (a + 1) D) (by omega) (by omega) (by omega) (by omega) (by omega)
    generalize insO lt a (20 - 1) (a + 1) D = D2 at hM hl nx ⊢
    have hgl := hl.symm
    have hws : IntKind.i64.wrap (((a + 20 : Nat) : Int) + ((20 : Nat) : Int)) = ((a + 20 + 20 : Nat) : Int) := wrapS (by omega) (by omega) (by omega)
    have hb := jt0_0 W E N D D2 a (a + 20) n 20
    rw [hws] at hb
    exact loop_next (body_of_sbodyK mixedz hb (by clear hb nx ih; exact Sj_z2) [] [] (σ3 := Yst0 E N D2 n 20 (a + 20) (a + 20 + 20)) (by clear hb nx ih; exact Sj_z1)) nx
theorem loopSt1 (n bs : Nat) (hbs : 0 < bs) (hbs2 : bs ≤ 2 ^ 42) : ∀ (f a : Nat) (D : List α), n = D.length → D.length ≤ 2 ^ 40 → D.length = N → n ≤ f + a → a ≤ n →
    LoopC Tryz.prog W [100001] (nslots Tryz.prog 100) (loopOf Tryz.prog 100 2) (Yst0 E N D n bs a (a + 2 * bs)) (.exit 4) ⟨[(0, dT N), (1, iA n), (4, iA bs), (5, iA ((mrgG lt n bs f a D).1 : Nat))], arrE E (mrgG lt n bs f a D).2⟩ := by
  have hcl := hI.cl
  intro f
  induction f with
  | zero =>
    intro a D hn hD hN hf han
    exact loop_last (by simp) (body_of_sbodyK mixedz (jt1_1 W E N D a (a + 2 * bs) n bs) Sj_z2 [] [] Sj_z1)
  | succ f ih =>
    intro a D hn hD hN hf han
    rw [mrgG]
    by_cases q : a + 2 * bs ≤ n
    case neg =>
      rw [if_neg q]
      exact loop_last (by simp) (body_of_sbodyK mixedz (jt1_1 W E N D a (a + 2 * bs) n bs) Sj_z2 [] [] Sj_z1)
    rw [if_pos q]
    have hM := symMM W hI n D a (a + bs) (a + 2 * bs) hN (by omega) (by omega) (by omega) (by omega) hD
    have hl := symM_len lt n a (a + bs) (a + 2 * bs) D
    have nx := ih (a + 2 * bs) (symM lt n a (a + bs) (a + 2 * bs) D) (by omega) (by omega) (by omega) (by omega) (by omega)
    generalize symM lt n a (a + bs) (a + 2 * bs) D = D2 at hM hl nx ⊢
    have hgl := hl.symm
    have w1 : IntKind.i64.wrap ((a : Int) + (bs : Int)) = ((a + bs : Nat) : Int) := wrapS (by omega) (by omega) (by omega)
    have w2 : IntKind.i64.wrap (2 * (bs : Int)) = ((2 * bs : Nat) : Int) := wrapS (by omega) (by omega) (by omega)
    have w3 : IntKind.i64.wrap (((a + 2 * bs : Nat) : Int) + ((2 * bs : Nat) : Int)) = ((a + 2 * bs + 2 * bs : Nat) : Int) := wrapS (by omega) (by omega) (by omega)
    have hb := jt1_0 W E N D D2 a (a + 2 * bs) n bs
    rw [w1, w2, w3] at hb
    exact loop_next (body_of_sbodyK mixedz hb (by clear hb nx ih; exact Sj_z2) [] [] (σ3 := Yst0 E N D2 n bs (a + 2 * bs) (a + 2 * bs + 2 * bs)) (by clear hb nx ih; exact Sj_z1)) nx
theorem loopSt2 (n : Nat) : ∀ (f bs : Nat) (D : List α), n = D.length → D.length ≤ 2 ^ 40 → D.length = N → n ≤ f + bs → 0 < bs → bs ≤ 2 ^ 41 →
    LoopC Tryz.prog W [100001] (nslots Tryz.prog 100) (loopOf Tryz.prog 100 1) (Yst1 E N D n bs) (.exit 2) (Yest E (mrgO lt n f bs D)) := by
  have hcl := hI.cl
  intro f
  induction f with
  | zero =>
    intro bs D hn hD hN hf hb0 hb1
    exact loop_last (by simp) (body_of_sbodyK mixedz (jt2_2 W E N D n bs) Sj_z2 [] [] Sj_z1)
  | succ f ih =>
    intro bs D hn hD hN hf hb0 hb1
    rw [mrgO]
    by_cases q : bs < n
    case neg =>
      rw [if_neg q]
      exact loop_last (by simp) (body_of_sbodyK mixedz (jt2_2 W E N D n bs) Sj_z2 [] [] Sj_z1)
    rw [if_pos q]
    have l1 := loopSt1 W hI n bs hb0 (by omega) n 0 D hn hD hN (by omega) (by omega)
    rw [Nat.zero_add] at l1
    have hl1 := mrgG_len lt n bs n 0 D
    have hle := mrgG_le lt n bs n 0 D (by omega)
    have nx := ih (bs * 2) (lvlG lt n bs D) (by rw [lvlG_len]; exact hn) (by rw [lvlG_len]; exact hD) (by rw [lvlG_len]; exact hN) (by omega) (by omega) (by omega)
    have hlv : lvlG lt n bs D = if (mrgG lt n bs n 0 D).1 + bs < n then symM lt n (mrgG lt n bs n 0 D).1 ((mrgG lt n bs n 0 D).1 + bs) n (mrgG lt n bs n 0 D).2 else (mrgG lt n bs n 0 D).2 := rfl
    have hgl0 := lvlG_len lt n bs D
    generalize (mrgG lt n bs n 0 D).1 = a at *
    generalize (mrgG lt n bs n 0 D).2 = D1 at *
    have hws : IntKind.i64.wrap ((bs : Int) * 2) = ((bs * 2 : Nat) : Int) := wrapS (by omega) (by omega) (by omega)
    have w2 : IntKind.i64.wrap (2 * (bs : Int)) = ((2 * bs : Nat) : Int) := wrapS (by omega) (by omega) (by omega)
    have w1 : IntKind.i64.wrap ((a : Int) + (bs : Int)) = ((a + bs : Nat) : Int) := wrapS (by omega) (by omega) (by omega)
    by_cases q2 : a + bs < n
    · rw [if_pos q2] at hlv
      have hM := symMM W hI n D1 a (a + bs) n (by omega) (by omega) (by omega) (by omega) (by omega) (by omega)
      rw [← hlv] at hM
      generalize lvlG lt n bs D = D2 at *
      have hgl : D1.length = D2.length := by omega
      have hb := jt2_0 W E N D D1 D2 a (2 * bs) n bs
      rw [w1, w2] at hb
      exact loop_next (body_of_sbodyK mixedz hb (by clear hb nx ih; exact Sj_z2) [] [] (σ3 := Yst1 E N D2 n (bs * 2)) (by clear hb nx ih; exact Sj_z1)) nx
    · rw [if_neg q2] at hlv
      rw [hlv] at nx ⊢
      have hb := jt2_1 W E N D D1 a (2 * bs) n bs
      rw [w1, w2] at hb
      exact loop_next (body_of_sbodyK mixedz hb (by clear hb nx ih; exact Sj_z2) [] [] (σ3 := Yst1 E N D1 n (bs * 2)) (by clear hb nx ih; exact Sj_z1)) nx
theorem sortMI (hw : SWO lt) (D : List α) (hD : D.length ≤ 2 ^ 40) (hN : D.length = N) : MutC Tryz.prog W 84 [dT N] (arrE E D) (.ret (.tup []) (arrE E (sortS lt D))) := by
  have hcl := hI.cl
  have hlen := hI.len D hN
  have hst : MutC Tryz.prog W 100 [dT N, iA D.length] (arrE E D) (.ret (.tup []) (arrE E (stabG lt D))) := by
    have l0 := loopSt0 W hI D.length D.length 0 D rfl hD hN (by omega) (by omega)
    rw [Nat.zero_add] at l0
    have hl := blkG_len lt D.length D.length 0 D
    have hle := blkG_le lt D.length D.length 0 D (by omega)
    have hs : stabG lt D = mrgO lt D.length D.length 20 (insO lt (blkG lt D.length D.length 0 D).1 (D.length - ((blkG lt D.length D.length 0 D).1 + 1)) ((blkG lt D.length D.length 0 D).1 + 1) (blkG lt D.length D.length 0 D).2) := rfl
    generalize (blkG lt D.length D.length 0 D).1 = a at *
    generalize (blkG lt D.length D.length 0 D).2 = D1 at *
    have hM := insM W hI D1 a D.length (by omega) (by omega) (by omega) hle
    have hl2 := jnsO_len lt a (D.length - (a + 1)) (a + 1) D1
    generalize insO lt a (D.length - (a + 1)) (a + 1) D1 = D2 at *
    have l2 := loopSt2 W hI D.length D.length 20 D2 (by omega) (by omega) (by omega) (by omega) (by omega) (by omega)
    rw [← hs] at l2
    generalize stabG lt D = D3 at l2 ⊢
    have hgl : D1.length = D2.length := by omega
    exact mut_of_sfun mixedz callST rfl (jtF_0 W E N D D1 D2 D3 a D.length) Sj_z2
  rw [stabG_ok hw, hN] at hst
  generalize sortS lt D = D2 at hst ⊢
  exact mut_of_sfun mixedz callSF rfl (jfF_0 W E N D D2) Sj_z2
end
end SI
end Go.Ac

