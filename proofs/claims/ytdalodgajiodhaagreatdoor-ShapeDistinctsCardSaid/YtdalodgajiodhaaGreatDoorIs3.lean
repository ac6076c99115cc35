/- What is proved: contracts of functions of this translation, walked; their plain meaning. No condition beyond those that each theorem names. -/
import Derived.Test.YtdalodgajiodhaaGreatDoorIs2
import Derived.Test.YtdalodgajiodhaaGreatDoorIXFb8
import Derived.Test.YtdalodgajiodhaaGreatDoorSo4
import Derived.Test.YtdalodgajiodhaaGreatDoorSd8
import Derived.Test.YtdalodgajiodhaaGreatDoorILw7
import Derived.Test.YtdalodgajiodhaaGreatDoorIHFr3
import Derived.Test.YtdalodgajiodhaaGreatDoorIHFr1
import Derived.Lib.Bytealg
set_option linter.all false
namespace Go.Ac
open Go Go.Proofs
set_option maxRecDepth 10000
set_option maxHeartbeats 1000000
def nilP : AV := .val (.pointer none)
def nilS : AV := .val (.slice none 0 0)
def S17 (A B : List Doc) (i : Nat) : AS := ⟨[(0, .sl 7 (docsA A) []), (1, .sl 7 (docsA B) []), (5, iA i)], []⟩
def E17 : AS := ⟨[], []⟩
def S8 (D : List Doc) (n : Int) (i : Nat) : AS := ⟨[(0, .sl 7 (docsA D) []), (3, iA n), (4, iA i)], []⟩
def E8 (D : List Doc) (n : Int) : AS := ⟨[(0, .sl 7 (docsA D) []), (3, iA n)], []⟩
def S16 (M L : List Doc) : AS := ⟨[(0, nilS), (5, .gs 100000 0 M.length), (6, .gs 100001 0 L.length)], [(100000, .arr 40 7 (docsA M) .own), (100001, .arr 40 7 (docsA L) .own)]⟩
def T16 (M L : List Doc) (at_ i : Nat) : AS := ⟨[(0, nilS), (5, .gs 100000 0 M.length), (6, .gs 100001 0 L.length), (7, iA at_), (8, iA i)], [(100000, .arr 40 7 (docsA M) .own), (100001, .arr 40 7 (docsA L) .own)]⟩
def U16 (M L : List Doc) (at_ : Nat) : AS := ⟨[(0, nilS), (5, .gs 100000 0 M.length), (6, .gs 100001 0 L.length), (7, iA at_)], [(100000, .arr 40 7 (docsA M) .own), (100001, .arr 40 7 (docsA L) .own)]⟩
def E16 (M : List Doc) : AS := ⟨[(5, .gs 100000 0 M.length)], [(100000, .arr 40 7 (docsA M) .own)]⟩
theorem p41_0 (W : World) (bb : Bool) (x y : Doc) : sF W { lp := true, ol := true, tl := [42] } 41 [docA x, docA y] [] 100000 [bt, bt, bt, bt, bt, bt, bt, bt, bt, bt, bt, ee, .lg, ee, cR (bA bb) [], bt, ee] [] = .ok (.ret (bA bb) [], [ee], (decide (x.ver = y.ver) = true) :: MZ W 42 [encV x.v, encV y.v] [] (.ret (bA bb) []) :: cloHs [] :: (decide (x.ver = y.ver) = true) :: (d4 (decide (x.ver = y.ver) = true) (d6 (decide (x.id = y.id) = true) []))) := by
  obtain ⟨ix, vx, ⟨hx, lx⟩⟩ := x; obtain ⟨iy, vy, ⟨hy, ly⟩⟩ := y; (show _ = _; kernel_rfl)
theorem p17_1 (W : World) (A B : List Doc) : sF W { lp := true, ol := true, tl := [41] } 17 [.sl 7 (docsA A) [], .sl 7 (docsA B) []] [] 100000 [bf, ee, .loopM [] [] (S17 A B 0) (.exit 0) E17, ee] [] = .ok (.ret (bA true) [], [ee], [LZ W [] 17 0 (S17 A B 0) (.exit 0) E17, MatchK [] [] [] { t := [(0, sL 7 (docsA A)), (1, sL 7 (docsA B)), (5, iA 0)], h := [] } (S17 A B 0), (!decide ((↑(docsA A).length : Int) = (↑(docsA B).length : Int))) = false]) := by kernel_rfl
theorem p8_0 (W : World) (D : List Doc) (z : Int) : sF W { lp := true, ol := true, tl := [26] } 8 [.sl 7 (docsA D) []] [] 100000 [ee, .loopM [] [] (S8 D 0 0) (.exit 0) (E8 D z), bt, bt, bt, ee] [] = .ok (.ret (bA true) [], [ee], d3 (decide (150 < (↑(docsA D).length : Int)) = true) [LZ W [] 8 0 (S8 D 0 0) (.exit 0) (E8 D z), MatchK [] [] [] { t := [(0, sL 7 (docsA D)), (3, iA 0), (4, iA 0)], h := [] } (S8 D 0 0)]) := by kernel_rfl
theorem p8_1 (W : World) (D : List Doc) (z : Int) : sF W { lp := true, ol := true, tl := [26] } 8 [.sl 7 (docsA D) []] [] 100000 [ee, .loopM [] [] (S8 D 0 0) (.exit 0) (E8 D z), bf, bf, bf, ee] [] = .ok (.ret (bA (decide (5000 < z))) [], [ee], d3 (decide (150 < (↑(docsA D).length : Int)) = false) [LZ W [] 8 0 (S8 D 0 0) (.exit 0) (E8 D z), MatchK [] [] [] { t := [(0, sL 7 (docsA D)), (3, iA 0), (4, iA 0)], h := [] } (S8 D 0 0)]) := by kernel_rfl
theorem b17_1 (W : World) (A B : List Doc) (i : Nat) (bb : Bool) (x y : Doc) : sQ W { lp := true, ol := true, tl := [41] } 17 0 [] [0, 1, 4, 5] (S17 A B i) [bt, aE 1, oS (docA x), aE 1, oS (docA y), ee, .lg, ee, cR (bA bb) [], bf, ee] = .ok ((.normal, { t := [(0, sL 7 (docsA A)), (1, sL 7 (docsA B)), (5, iA (IntKind.i64.wrap ((↑i : Int) + 1)))], h := [] }), [ee], [(!bb) = false, MZ W 41 [docA x, docA y] [] (.ret (bA bb) []), cloHs [], (docsA B)[(↑i : Int).toNat]? = some (docA y), (docsA A)[(↑i : Int).toNat]? = some (docA x), decide ((↑i : Int) < (↑(docsA A).length : Int)) = true]) := by
  obtain ⟨ix, vx, ⟨hx, lx⟩⟩ := x; obtain ⟨iy, vy, ⟨hy, ly⟩⟩ := y; (show _ = _; kernel_rfl)
theorem b17_2 (W : World) (A B : List Doc) (i : Nat) : sQ W { lp := true, ol := true, tl := [41] } 17 0 [] [0, 1, 4, 5] (S17 A B i) [bf, ee] = .ok ((.exit 0, { t := [(0, sL 7 (docsA A)), (1, sL 7 (docsA B)), (5, iA (↑i : Int))], h := [] }), [ee], [decide ((↑i : Int) < (↑(docsA A).length : Int)) = false]) := by kernel_rfl
theorem b8_0 (W : World) (D : List Doc) (i : Nat) (z e : Int) (x : Doc) : sQ W { lp := true, ol := true, tl := [26] } 8 0 [] [0, 3, 4] (S8 D z i) [bt, bt, bt, bt, aE 1, oS (docA x), ee, .lg, ee, cR (iA e) [], ee] = .ok ((.normal, { t := [(0, sL 7 (docsA D)), (3, iA (IntKind.i64.wrap (z + e))), (4, iA (IntKind.i64.wrap ((↑i : Int) + 1)))], h := [] }), [ee], MZ W 26 [encV x.v, iA 5000] [] (.ret (iA e) []) :: cloHs [] :: ((docsA D)[(↑i : Int).toNat]? = some (docA x)) :: (decide (z ≤ 5000) = true) :: (d3 (decide ((↑i : Int) < (↑(docsA D).length : Int)) = true) [])) := by
  obtain ⟨ix, vx, ⟨hx, lx⟩⟩ := x; (show _ = _; kernel_rfl)
theorem b8_1 (W : World) (D : List Doc) (i : Nat) (z : Int) : sQ W { lp := true, ol := true, tl := [26] } 8 0 [] [0, 3, 4] (S8 D z i) [bt, bt, bt, bf, ee] = .ok ((.exit 0, { t := [(0, sL 7 (docsA D)), (3, iA z), (4, iA (↑i : Int))], h := [] }), [ee], (decide (z ≤ 5000) = false) :: (d3 (decide ((↑i : Int) < (↑(docsA D).length : Int)) = true) [])) := by kernel_rfl
theorem b8_2 (W : World) (D : List Doc) (i : Nat) (z : Int) : sQ W { lp := true, ol := true, tl := [26] } 8 0 [] [0, 3, 4] (S8 D z i) [bf, bf, bf, ee] = .ok ((.exit 0, { t := [(0, sL 7 (docsA D)), (3, iA z), (4, iA (↑i : Int))], h := [] }), [aE 9999999], d3 (decide ((↑i : Int) < (↑(docsA D).length : Int)) = false) []) := by kernel_rfl
theorem zhN {p : Prop} (h : p := by and_intros <;> first | exact trivial | exact gOK_ph' rfl (by decide) rfl | exact gOK_eq rfl rfl rfl | exact gOK_arr rfl rfl rfl (docs_clo _) | exact gOK_arr rfl rfl hset1 (docs_clo _) | exact gOK_arr rfl rfl hset2 (docs_clo _)) : p := h
theorem zlN {φ ph x y} (h : LeP φ ph x y := by first | exact .eq rfl rfl | exact .nil rfl | exact .same (by rw [hws]; rfl) rfl | exact .same (by rw [hws2]; rfl) rfl | exact .eq (congrArg (AV.gs _ 0) hgl) rfl | exact .eq (congrArg (AV.gs _ 0) hgl2) rfl) : LeP φ ph x y := h
theorem ztN {p : Prop} (h : p := by and_intros <;> first | exact trivial | exact zlN) : p := h
theorem Sn_z1 {kp f ph σ σ'} (h : MatchK kp f ph σ σ' := by exact ⟨by rfl, (by simp only [nilP, nilS, cmS, S17, E17, S8, E8, S16, T16, U16, E16, tOK, List.map_cons, List.map_nil, and_true] <;> exact ztN), (by simp only [nilP, nilS, cmS, S17, E17, S8, E8, S16, T16, U16, E16, hOK, List.map_cons, List.map_nil, and_true] <;> exact zhN), (by simp only [nilP, nilS, cmS, S17, E17, S8, E8, S16, T16, U16, E16, liveT, List.map_cons, List.map_nil, and_true] <;> exact zvS), (by simp only [nilP, nilS, cmS, S17, E17, S8, E8, S16, T16, U16, E16, liveH, List.map_cons, List.map_nil, and_true] <;> exact zvS)⟩) : MatchK kp f ph σ σ' := h
theorem Sn_z2 {cs} (h : Holds cs := by simp only [Holds, cloHs, and_true] <;> and_intros <;> first | assumption | exact docs_clo _ | exact decide_eq_true (by omega) | exact decide_eq_false (by omega) | omega | exact trivial | exact .inl trivial | exact .inr ⟨trivial, hgl3⟩ | (constructor <;> omega) | exact Sn_z1) : Holds cs := h
theorem call17 : callable Tryz.prog 17 = true := by kernel_rfl
theorem call41 : callable Tryz.prog 41 = true := by kernel_rfl
theorem call8 : callable Tryz.prog 8 = true := by kernel_rfl
section
variable (W : World)
end
end Go.Ac

