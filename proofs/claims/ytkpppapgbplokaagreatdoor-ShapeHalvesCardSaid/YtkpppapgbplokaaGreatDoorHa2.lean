/- What is proved: contracts of functions of this translation, walked; their plain meaning. No condition beyond those that each theorem names. -/
import Derived.Test.YtkpppapgbplokaaGreatDoorHa1
import Derived.Test.YtkpppapgbplokaaGreatDoorHFr1
import Derived.Test.YtkpppapgbplokaaGreatDoorHFr3
import Derived.Test.YtkpppapgbplokaaGreatDoorPh2
set_option linter.all false
namespace Go.Ac
open Go Go.Proofs
set_option maxRecDepth 10000
set_option maxHeartbeats 1000000
def R4i (n : Int) : AS := ⟨[(4, iA n)], []⟩
def S18 (h : JH) (l : List JV) (d : Int) (i : Nat) : AS := ⟨[(1, iA d), (2, .gp 100000 0), (6, iA i)], [(100000, .box (encV (.mk h l)) .own)]⟩
def S13 (h : JH) (l : List JV) (i : Nat) : AS := ⟨[(1, .gp 100000 0), (3, iA i)], [(100000, .box (encV (.mk h l)) .own)]⟩
def S16 (h : JH) (l : List JV) (n : Int) (i : Nat) : AS := ⟨[(1, .gp 100000 0), (3, iA n), (4, iA i)], [(100000, .box (encV (.mk h l)) .own)]⟩
def E16 (n : Int) : AS := ⟨[(3, iA n)], []⟩
def ppA (ps : List (List (List UInt8))) : List AV := ps.map fun p => .sl 1 (p.map AV.str) []
def S47 (ps out : List (List (List UInt8))) (s : List UInt8) (i : Nat) : AS := ⟨[(1, .str s), (6, .gs 100000 0 out.length), (9, .sl 1 (ppA ps) []), (10, iA (ppA ps).length), (11, iA i)], [(100000, .arr 22 1 (ppA out) .own)]⟩
def E47 (out : List (List (List UInt8))) : AS := ⟨[(6, .gs 100000 0 out.length)], [(100000, .arr 22 1 (ppA out) .own)]⟩
def R47 : AS := ⟨[(4, .val (.slice none 0 0)), (5, bA true)], []⟩
def S24 (ps : List (List (List UInt8))) (i : Nat) : AS := ⟨[(0, .sl 1 (ppA ps) []), (4, iA i)], []⟩
def T24 (ps : List (List (List UInt8))) (i k : Nat) : AS := ⟨[(0, .sl 1 (ppA ps) []), (4, iA i), (5, iA k)], []⟩
def R24 (i : Nat) : AS := ⟨[(2, iA i), (3, bA true)], []⟩
def S45 (p : List (List UInt8)) (i : Nat) : AS := ⟨[(0, .sl 1 (p.map AV.str) []), (1, .val (.func (.func 27) #[] #[])), (7, iA (p.map AV.str).length), (8, iA i)], []⟩
theorem p18_0 (W : World) (h : JH) (l : List JV) (d : Int) : sF W { lp := true, tl := [34, 35, 36, 18] } 18 [eV h l, iA d] [] 100000 [bt, bt, bt, bt, bt, bt, bt, bt, ee] [] = .ok (.ret (iA 17) [], [aE 9999999], d4 (decide (64 < d) = true) (d4 (decide (h.kind = 5) = true) [])) := by kernel_rfl
theorem p18_1 (W : World) (h : JH) (l : List JV) (d : Int) : sF W { lp := true, tl := [34, 35, 36, 18] } 18 [eV h l, iA d] [] 100000 [bt, bt, bt, bt, bf, bf, aE 2, bf, aE 1, bf, bt, ee] [] = .ok (.ret (iA 17) [], [ee], (decide (d = 64) = true) :: (d4 (decide (64 < d) = false) (d4 (decide (h.kind = 5) = true) []))) := by kernel_rfl
theorem p18_2 (W : World) (h : JH) (l : List JV) (d : Int) : sF W { lp := true, tl := [34, 35, 36, 18] } 18 [eV h l, iA d] [] 100000 [bt, bt, bt, bt, bf, bf, aE 2, bf, aE 1, bf, bf, bt, bt, bt, bt, ee] [] = .ok (.ret (iA 18) [], [aE 9999990], d4 (decide (h.kind < 0) = true) ((decide (d = 64) = false) :: (d4 (decide (64 < d) = false) (d4 (decide (h.kind = 5) = true) [])))) := by kernel_rfl
theorem p18_3 (W : World) (h : JH) (l : List JV) (d : Int) : sF W { lp := true, tl := [34, 35, 36, 18] } 18 [eV h l, iA d] [] 100000 [bt, bt, bt, bt, bf, bf, aE 2, bf, aE 1, bf, bf, bf, bf, bf, bf, bt, bt, bt, bt, ee] [] = .ok (.ret (iA 18) [], [aE 9999994], d4 (decide (6 < h.kind) = true) (d4 (decide (h.kind < 0) = false) ((decide (d = 64) = false) :: (d4 (decide (64 < d) = false) (d4 (decide (h.kind = 5) = true) []))))) := by kernel_rfl
theorem p18_4 (W : World) (h : JH) (l : List JV) (d : Int) (pl : Bool) : sF W { lp := true, tl := [34, 35, 36, 18] } 18 [eV h l, iA d] [] 100000 [bt, bt, bt, bt, bf, bf, aE 2, bf, aE 1, bf, bf, bf, bf, bf, bf, bf, bf, ee, cR (bA pl) [], bf, bf, bt, bt, bt, bt, bt, ee] [] = .ok (.ret (iA 18) [], [aE 9999999], ((!pl) = true) :: (d4 ((!pl) = true) (d2 (decide (6 < h.kind) = false) (MZ W 34 [eV h l] [] (.ret (bA pl) []) :: (d2 (decide (6 < h.kind) = false) (d4 (decide (h.kind < 0) = false) ((decide (d = 64) = false) :: (d4 (decide (64 < d) = false) (d4 (decide (h.kind = 5) = true) []))))))))) := by kernel_rfl
theorem p18_5 (W : World) (h : JH) (l : List JV) (d : Int) (pl cl : Bool) : sF W { lp := true, tl := [34, 35, 36, 18] } 18 [eV h l, iA d] [] 100000 [bt, bt, bt, bt, bf, bf, aE 2, bf, aE 1, bf, bf, bf, bf, bf, bf, bf, bf, ee, cR (bA pl) [], bf, bf, bf, bf, bf, ee, cR (bA cl) [], bf, bf, bt, ee] [] = .ok (.ret (iA 18) [], [ee], ((!cl) = true) :: (d2 ((!pl) = false) (MZ W 35 [.str h.3] [] (.ret (bA cl) []) :: (d3 ((!pl) = false) (d2 (decide (6 < h.kind) = false) (MZ W 34 [eV h l] [] (.ret (bA pl) []) :: (d2 (decide (6 < h.kind) = false) (d4 (decide (h.kind < 0) = false) ((decide (d = 64) = false) :: (d4 (decide (64 < d) = false) (d4 (decide (h.kind = 5) = true) []))))))))))) := by kernel_rfl
theorem p18_6 (W : World) (h : JH) (l : List JV) (d : Int) (pl cl : Bool) : sF W { lp := true, tl := [34, 35, 36, 18] } 18 [eV h l, iA d] [] 100000 [bt, bt, bt, bt, bf, bf, aE 2, bf, aE 1, bf, bf, bf, bf, bf, bf, bf, bf, ee, cR (bA pl) [], bf, bf, bf, bf, bf, ee, cR (bA cl) [], bf, bf, bf, ee, .loopM [] [] (S18 h l d 0) (.exit 0) E0, ee] [] = .ok (.ret (iA 0) [], [ee], LZ W [] 18 0 (S18 h l d 0) (.exit 0) E0 :: MatchK [] [] [] { t := [(1, iA d), (2, .gp 100000 0), (6, iA 0)], h := [(100000, gB (eV h l))] } (S18 h l d 0) :: ((!cl) = false) :: (d2 ((!pl) = false) (MZ W 35 [.str h.3] [] (.ret (bA cl) []) :: (d3 ((!pl) = false) (d2 (decide (6 < h.kind) = false) (MZ W 34 [eV h l] [] (.ret (bA pl) []) :: (d2 (decide (6 < h.kind) = false) (d4 (decide (h.kind < 0) = false) ((decide (d = 64) = false) :: (d4 (decide (64 < d) = false) (d4 (decide (h.kind = 5) = true) []))))))))))) := by kernel_rfl
theorem p18_7 (W : World) (h : JH) (l : List JV) (d : Int) : sF W { lp := true, tl := [34, 35, 36, 18] } 18 [eV h l, iA d] [] 100000 [bf, bf, bf, bf, bt, bt, bt, bt, ee] [] = .ok (.ret (iA 17) [], [aE 9999999], d4 (decide (64 < d) = true) (d4 (decide (h.kind = 5) = false) [])) := by kernel_rfl
theorem p18_8 (W : World) (h : JH) (l : List JV) (d : Int) : sF W { lp := true, tl := [34, 35, 36, 18] } 18 [eV h l, iA d] [] 100000 [bf, bf, bf, bf, bf, bf, bt, bt, bf, bt, bf, bt, ee] [] = .ok (.ret (iA 17) [], [ee], (decide (d = 64) = true) :: (decide (64 < d) = false) :: (decide (h.kind = 6) = true) :: (decide (64 < d) = false) :: (d2 (decide (h.kind = 6) = true) (d2 (decide (64 < d) = false) (d4 (decide (h.kind = 5) = false) [])))) := by kernel_rfl
theorem p18_9 (W : World) (h : JH) (l : List JV) (d : Int) : sF W { lp := true, tl := [34, 35, 36, 18] } 18 [eV h l, iA d] [] 100000 [bf, bf, bf, bf, bf, bf, bt, bt, bf, bt, bf, bf, bt, bt, bt, bt, ee] [] = .ok (.ret (iA 18) [], [aE 9999990], d4 (decide (h.kind < 0) = true) ((decide (d = 64) = false) :: (decide (64 < d) = false) :: (decide (h.kind = 6) = true) :: (decide (64 < d) = false) :: (d2 (decide (h.kind = 6) = true) (d2 (decide (64 < d) = false) (d4 (decide (h.kind = 5) = false) []))))) := by kernel_rfl
theorem p18_10 (W : World) (h : JH) (l : List JV) (d : Int) : sF W { lp := true, tl := [34, 35, 36, 18] } 18 [eV h l, iA d] [] 100000 [bf, bf, bf, bf, bf, bf, bt, bt, bf, bt, bf, bf, bf, bf, bf, bf, bt, bt, bt, bt, ee] [] = .ok (.ret (iA 18) [], [aE 9999994], d4 (decide (6 < h.kind) = true) (d4 (decide (h.kind < 0) = false) ((decide (d = 64) = false) :: (decide (64 < d) = false) :: (decide (h.kind = 6) = true) :: (decide (64 < d) = false) :: (d2 (decide (h.kind = 6) = true) (d2 (decide (64 < d) = false) (d4 (decide (h.kind = 5) = false) [])))))) := by kernel_rfl
theorem p18_11 (W : World) (h : JH) (l : List JV) (d : Int) (pl : Bool) : sF W { lp := true, tl := [34, 35, 36, 18] } 18 [eV h l, iA d] [] 100000 [bf, bf, bf, bf, bf, bf, bt, bt, bf, bt, bf, bf, bf, bf, bf, bf, bf, bf, ee, cR (bA pl) [], bf, bf, bt, bt, bt, bt, bt, ee] [] = .ok (.ret (iA 18) [], [aE 9999999], ((!pl) = true) :: (d4 ((!pl) = true) (d2 (decide (6 < h.kind) = false) (MZ W 34 [eV h l] [] (.ret (bA pl) []) :: (d2 (decide (6 < h.kind) = false) (d4 (decide (h.kind < 0) = false) ((decide (d = 64) = false) :: (decide (64 < d) = false) :: (decide (h.kind = 6) = true) :: (decide (64 < d) = false) :: (d2 (decide (h.kind = 6) = true) (d2 (decide (64 < d) = false) (d4 (decide (h.kind = 5) = false) [])))))))))) := by kernel_rfl
theorem p18_12 (W : World) (h : JH) (l : List JV) (d : Int) (pl cl : Bool) : sF W { lp := true, tl := [34, 35, 36, 18] } 18 [eV h l, iA d] [] 100000 [bf, bf, bf, bf, bf, bf, bt, bt, bf, bt, bf, bf, bf, bf, bf, bf, bf, bf, ee, cR (bA pl) [], bf, bf, bf, bf, bf, ee, cR (bA cl) [], bf, bf, bt, ee] [] = .ok (.ret (iA 18) [], [ee], ((!cl) = true) :: (d2 ((!pl) = false) (MZ W 35 [.str h.3] [] (.ret (bA cl) []) :: (d3 ((!pl) = false) (d2 (decide (6 < h.kind) = false) (MZ W 34 [eV h l] [] (.ret (bA pl) []) :: (d2 (decide (6 < h.kind) = false) (d4 (decide (h.kind < 0) = false) ((decide (d = 64) = false) :: (decide (64 < d) = false) :: (decide (h.kind = 6) = true) :: (decide (64 < d) = false) :: (d2 (decide (h.kind = 6) = true) (d2 (decide (64 < d) = false) (d4 (decide (h.kind = 5) = false) [])))))))))))) := by kernel_rfl
theorem p18_13 (W : World) (h : JH) (l : List JV) (d : Int) (pl cl : Bool) : sF W { lp := true, tl := [34, 35, 36, 18] } 18 [eV h l, iA d] [] 100000 [bf, bf, bf, bf, bf, bf, bt, bt, bf, bt, bf, bf, bf, bf, bf, bf, bf, bf, ee, cR (bA pl) [], bf, bf, bf, bf, bf, ee, cR (bA cl) [], bf, bf, bf, ee, .loopM [] [] (S18 h l d 0) (.exit 0) E0, ee] [] = .ok (.ret (iA 0) [], [ee], LZ W [] 18 0 (S18 h l d 0) (.exit 0) E0 :: MatchK [] [] [] { t := [(1, iA d), (2, .gp 100000 0), (6, iA 0)], h := [(100000, gB (eV h l))] } (S18 h l d 0) :: ((!cl) = false) :: (d2 ((!pl) = false) (MZ W 35 [.str h.3] [] (.ret (bA cl) []) :: (d3 ((!pl) = false) (d2 (decide (6 < h.kind) = false) (MZ W 34 [eV h l] [] (.ret (bA pl) []) :: (d2 (decide (6 < h.kind) = false) (d4 (decide (h.kind < 0) = false) ((decide (d = 64) = false) :: (decide (64 < d) = false) :: (decide (h.kind = 6) = true) :: (decide (64 < d) = false) :: (d2 (decide (h.kind = 6) = true) (d2 (decide (64 < d) = false) (d4 (decide (h.kind = 5) = false) [])))))))))))) := by kernel_rfl
theorem p18_14 (W : World) (h : JH) (l : List JV) (d : Int) : sF W { lp := true, tl := [34, 35, 36, 18] } 18 [eV h l, iA d] [] 100000 [bf, bf, bf, bf, bf, bf, bf, bf, bf, bf, bf, aE 1, bt, bt, bt, bt, ee] [] = .ok (.ret (iA 18) [], [aE 9999990], d4 (decide (h.kind < 0) = true) ((decide (64 < d) = false) :: (decide (h.kind = 6) = false) :: (decide (64 < d) = false) :: (d2 (decide (h.kind = 6) = false) (d2 (decide (64 < d) = false) (d4 (decide (h.kind = 5) = false) []))))) := by kernel_rfl
theorem p18_15 (W : World) (h : JH) (l : List JV) (d : Int) : sF W { lp := true, tl := [34, 35, 36, 18] } 18 [eV h l, iA d] [] 100000 [bf, bf, bf, bf, bf, bf, bf, bf, bf, bf, bf, aE 1, bf, bf, bf, bf, bt, bt, bt, bt, ee] [] = .ok (.ret (iA 18) [], [aE 9999994], d4 (decide (6 < h.kind) = true) (d4 (decide (h.kind < 0) = false) ((decide (64 < d) = false) :: (decide (h.kind = 6) = false) :: (decide (64 < d) = false) :: (d2 (decide (h.kind = 6) = false) (d2 (decide (64 < d) = false) (d4 (decide (h.kind = 5) = false) [])))))) := by kernel_rfl
theorem p18_16 (W : World) (h : JH) (l : List JV) (d : Int) (pl : Bool) : sF W { lp := true, tl := [34, 35, 36, 18] } 18 [eV h l, iA d] [] 100000 [bf, bf, bf, bf, bf, bf, bf, bf, bf, bf, bf, aE 1, bf, bf, bf, bf, bf, bf, ee, cR (bA pl) [], bf, bf, bt, bt, bt, bt, bt, ee] [] = .ok (.ret (iA 18) [], [aE 9999999], ((!pl) = true) :: (d4 ((!pl) = true) (d2 (decide (6 < h.kind) = false) (MZ W 34 [eV h l] [] (.ret (bA pl) []) :: (d2 (decide (6 < h.kind) = false) (d4 (decide (h.kind < 0) = false) ((decide (64 < d) = false) :: (decide (h.kind = 6) = false) :: (decide (64 < d) = false) :: (d2 (decide (h.kind = 6) = false) (d2 (decide (64 < d) = false) (d4 (decide (h.kind = 5) = false) [])))))))))) := by kernel_rfl
theorem p18_17 (W : World) (h : JH) (l : List JV) (d : Int) (pl cl : Bool) : sF W { lp := true, tl := [34, 35, 36, 18] } 18 [eV h l, iA d] [] 100000 [bf, bf, bf, bf, bf, bf, bf, bf, bf, bf, bf, aE 1, bf, bf, bf, bf, bf, bf, ee, cR (bA pl) [], bf, bf, bf, bf, bf, ee, cR (bA cl) [], bf, bf, bt, ee] [] = .ok (.ret (iA 18) [], [ee], ((!cl) = true) :: (d2 ((!pl) = false) (MZ W 35 [.str h.3] [] (.ret (bA cl) []) :: (d3 ((!pl) = false) (d2 (decide (6 < h.kind) = false) (MZ W 34 [eV h l] [] (.ret (bA pl) []) :: (d2 (decide (6 < h.kind) = false) (d4 (decide (h.kind < 0) = false) ((decide (64 < d) = false) :: (decide (h.kind = 6) = false) :: (decide (64 < d) = false) :: (d2 (decide (h.kind = 6) = false) (d2 (decide (64 < d) = false) (d4 (decide (h.kind = 5) = false) [])))))))))))) := by kernel_rfl
theorem p18_18 (W : World) (h : JH) (l : List JV) (d : Int) (pl cl : Bool) : sF W { lp := true, tl := [34, 35, 36, 18] } 18 [eV h l, iA d] [] 100000 [bf, bf, bf, bf, bf, bf, bf, bf, bf, bf, bf, aE 1, bf, bf, bf, bf, bf, bf, ee, cR (bA pl) [], bf, bf, bf, bf, bf, ee, cR (bA cl) [], bf, bf, bf, ee, .loopM [] [] (S18 h l d 0) (.exit 0) E0, ee] [] = .ok (.ret (iA 0) [], [ee], LZ W [] 18 0 (S18 h l d 0) (.exit 0) E0 :: MatchK [] [] [] { t := [(1, iA d), (2, .gp 100000 0), (6, iA 0)], h := [(100000, gB (eV h l))] } (S18 h l d 0) :: ((!cl) = false) :: (d2 ((!pl) = false) (MZ W 35 [.str h.3] [] (.ret (bA cl) []) :: (d3 ((!pl) = false) (d2 (decide (6 < h.kind) = false) (MZ W 34 [eV h l] [] (.ret (bA pl) []) :: (d2 (decide (6 < h.kind) = false) (d4 (decide (h.kind < 0) = false) ((decide (64 < d) = false) :: (decide (h.kind = 6) = false) :: (decide (64 < d) = false) :: (d2 (decide (h.kind = 6) = false) (d2 (decide (64 < d) = false) (d4 (decide (h.kind = 5) = false) [])))))))))))) := by kernel_rfl
theorem q18_6 (W : World) (h : JH) (l : List JV) (d n : Int) (pl cl : Bool) : sF W { lp := true, tl := [34, 35, 36, 18] } 18 [eV h l, iA d] [] 100000 [bt, bt, bt, bt, bf, bf, aE 2, bf, aE 1, bf, bf, bf, bf, bf, bf, bf, bf, ee, cR (bA pl) [], bf, bf, bf, bf, bf, ee, cR (bA cl) [], bf, bf, bf, ee, .loopM [] [] (S18 h l d 0) .ret (R4i n), ee] [] = .ok (.ret (iA n) [], [ee], LZ W [] 18 0 (S18 h l d 0) .ret (R4i n) :: MatchK [] [] [] { t := [(1, iA d), (2, .gp 100000 0), (6, iA 0)], h := [(100000, gB (eV h l))] } (S18 h l d 0) :: ((!cl) = false) :: (d2 ((!pl) = false) (MZ W 35 [.str h.3] [] (.ret (bA cl) []) :: (d3 ((!pl) = false) (d2 (decide (6 < h.kind) = false) (MZ W 34 [eV h l] [] (.ret (bA pl) []) :: (d2 (decide (6 < h.kind) = false) (d4 (decide (h.kind < 0) = false) ((decide (d = 64) = false) :: (d4 (decide (64 < d) = false) (d4 (decide (h.kind = 5) = true) []))))))))))) := by kernel_rfl
theorem q18_13 (W : World) (h : JH) (l : List JV) (d n : Int) (pl cl : Bool) : sF W { lp := true, tl := [34, 35, 36, 18] } 18 [eV h l, iA d] [] 100000 [bf, bf, bf, bf, bf, bf, bt, bt, bf, bt, bf, bf, bf, bf, bf, bf, bf, bf, ee, cR (bA pl) [], bf, bf, bf, bf, bf, ee, cR (bA cl) [], bf, bf, bf, ee, .loopM [] [] (S18 h l d 0) .ret (R4i n), ee] [] = .ok (.ret (iA n) [], [ee], LZ W [] 18 0 (S18 h l d 0) .ret (R4i n) :: MatchK [] [] [] { t := [(1, iA d), (2, .gp 100000 0), (6, iA 0)], h := [(100000, gB (eV h l))] } (S18 h l d 0) :: ((!cl) = false) :: (d2 ((!pl) = false) (MZ W 35 [.str h.3] [] (.ret (bA cl) []) :: (d3 ((!pl) = false) (d2 (decide (6 < h.kind) = false) (MZ W 34 [eV h l] [] (.ret (bA pl) []) :: (d2 (decide (6 < h.kind) = false) (d4 (decide (h.kind < 0) = false) ((decide (d = 64) = false) :: (decide (64 < d) = false) :: (decide (h.kind = 6) = true) :: (decide (64 < d) = false) :: (d2 (decide (h.kind = 6) = true) (d2 (decide (64 < d) = false) (d4 (decide (h.kind = 5) = false) [])))))))))))) := by kernel_rfl
theorem q18_18 (W : World) (h : JH) (l : List JV) (d n : Int) (pl cl : Bool) : sF W { lp := true, tl := [34, 35, 36, 18] } 18 [eV h l, iA d] [] 100000 [bf, bf, bf, bf, bf, bf, bf, bf, bf, bf, bf, aE 1, bf, bf, bf, bf, bf, bf, ee, cR (bA pl) [], bf, bf, bf, bf, bf, ee, cR (bA cl) [], bf, bf, bf, ee, .loopM [] [] (S18 h l d 0) .ret (R4i n), ee] [] = .ok (.ret (iA n) [], [ee], LZ W [] 18 0 (S18 h l d 0) .ret (R4i n) :: MatchK [] [] [] { t := [(1, iA d), (2, .gp 100000 0), (6, iA 0)], h := [(100000, gB (eV h l))] } (S18 h l d 0) :: ((!cl) = false) :: (d2 ((!pl) = false) (MZ W 35 [.str h.3] [] (.ret (bA cl) []) :: (d3 ((!pl) = false) (d2 (decide (6 < h.kind) = false) (MZ W 34 [eV h l] [] (.ret (bA pl) []) :: (d2 (decide (6 < h.kind) = false) (d4 (decide (h.kind < 0) = false) ((decide (64 < d) = false) :: (decide (h.kind = 6) = false) :: (decide (64 < d) = false) :: (d2 (decide (h.kind = 6) = false) (d2 (decide (64 < d) = false) (d4 (decide (h.kind = 5) = false) [])))))))))))) := by kernel_rfl
theorem p5_0 (W : World) (h : JH) (l : List JV) (e : Int) : sF W { lp := true, tl := [18] } 5 [eV h l] [] 100000 [ee, cR (iA e) [], ee] [] = .ok (.ret (iA e) [], [ee], [MZ W 18 [eV h l, iA 0] [] (.ret (iA e) [])]) := by kernel_rfl
theorem p13_0 (W : World) (h : JH) (l : List JV) : sF W { lp := true, tl := [13] } 13 [eV h l] [] 100000 [bt, ee] [] = .ok (.ret (bA false) [], [ee], [decide (h.kind = 5) = true]) := by kernel_rfl
theorem p13_1 (W : World) (h : JH) (l : List JV) : sF W { lp := true, tl := [13] } 13 [eV h l] [] 100000 [bf, ee, .loopM [] [] (S13 h l 0) (.exit 0) E0, ee] [] = .ok (.ret (bA true) [], [ee], [LZ W [] 13 0 (S13 h l 0) (.exit 0) E0, MatchK [] [] [] { t := [(1, .gp 100000 0), (3, iA 0)], h := [(100000, gB (eV h l))] } (S13 h l 0), decide (h.kind = 5) = false]) := by kernel_rfl
theorem q13_1 (W : World) (h : JH) (l : List JV) : sF W { lp := true, tl := [13] } 13 [eV h l] [] 100000 [bf, ee, .loopM [] [] (S13 h l 0) .ret (R2b false), ee] [] = .ok (.ret (bA false) [], [ee], [LZ W [] 13 0 (S13 h l 0) .ret (R2b false), MatchK [] [] [] { t := [(1, .gp 100000 0), (3, iA 0)], h := [(100000, gB (eV h l))] } (S13 h l 0), decide (h.kind = 5) = false]) := by kernel_rfl
theorem p16_0 (W : World) (h : JH) (l : List JV) : sF W { lp := true, tl := [16, 22] } 16 [eV h l] [] 100000 [bt, ee] [] = .ok (.ret (iA 1) [], [ee], [(!decide (h.kind = 6)) = true]) := by kernel_rfl
theorem p16_1 (W : World) (h : JH) (l : List JV) (n : Int) : sF W { lp := true, tl := [16, 22] } 16 [eV h l] [] 100000 [bf, ee, .loopM [] [] (S16 h l 0 0) (.exit 0) (E16 n), ee] [] = .ok (.ret (iA n) [], [ee], [LZ W [] 16 0 (S16 h l 0 0) (.exit 0) (E16 n), MatchK [] [] [] { t := [(1, .gp 100000 0), (3, iA 0), (4, iA 0)], h := [(100000, gB (eV h l))] } (S16 h l 0 0), (!decide (h.kind = 6)) = false]) := by kernel_rfl
theorem p22_0 (W : World) (h : JH) (l : List JV) : sF W { lp := true } 22 [eV h l] [] 100000 [bt, ee] [] = .ok (.ret (iA (↑(List.map AV.str h.names).length : Int)) [], [ee], [decide ((↑(List.map AV.str h.names).length : Int) < (↑(encVs l).length : Int)) = true]) := by kernel_rfl
theorem p22_1 (W : World) (h : JH) (l : List JV) : sF W { lp := true } 22 [eV h l] [] 100000 [bf, ee] [] = .ok (.ret (iA (↑(encVs l).length : Int)) [], [ee], [decide ((↑(List.map AV.str h.names).length : Int) < (↑(encVs l).length : Int)) = false]) := by kernel_rfl
theorem p15_0 (W : World) (h : JH) (l : List JV) (p : List (List UInt8)) : sF W { lp := true, tl := [15, 33] } 15 [eV h l, .sl 1 (p.map AV.str) []] [] 100000 [bt, ee] [] = .ok (.ret (.tup [eV h l, bA true]) [], [ee], [decide ((↑(List.map AV.str p).length : Int) = 0) = true]) := by kernel_rfl
theorem p15_1 (W : World) (h : JH) (l : List JV) (n : Int) (s : List UInt8) (p : List (List UInt8)) : sF W { lp := true, tl := [15, 33] } 15 [eV h l, .sl 1 (p.map AV.str) []] [] 100000 [bf, aE 1, oS (.str s), ee, cR (iA n) [], bt, ee] [] = .ok (.ret (.tup [.agg [iA 0, iA 0, .str [], .val (Value.slice none 0 0), .val (Value.slice none 0 0)], bA false]) [], [ee], [decide (n < 0) = true, MZ W 33 [eV h l, .str s] [] (.ret (iA n) []), (List.map AV.str p)[0]? = some (AV.str s), decide ((↑(List.map AV.str p).length : Int) = 0) = false]) := by kernel_rfl
theorem p15_2 (W : World) (h hx hy : JH) (l k y : List JV) (n : Int) (b : Bool) (s : List UInt8) (p : List (List UInt8)) : sF W { lp := true, tl := [15, 33] } 15 [eV h l, .sl 1 (p.map AV.str) []] [] 100000 [bf, aE 1, oS (.str s), ee, cR (iA n) [], bf, .lg, oS (eV hx k), aE 1, .lg, ee, cR (.tup [eV hy y, bA b]) [], ee] [] = .ok (.ret (.tup [eV hy y, bA b]) [], [ee], [MZ W 15 [eV hx k, AV.sl 1 (List.drop 1 (List.take (↑(defLen (sL 1 (List.map AV.str p))) : Int).toNat (List.map AV.str p ++ []))) (List.drop (↑(defLen (sL 1 (List.map AV.str p))) : Int).toNat (List.map AV.str p ++ []))] [] (.ret (.tup [eV hy y, bA b]) []), 1 ≤ (↑(defLen (sL 1 (List.map AV.str p))) : Int) ∧ (↑(defLen (sL 1 (List.map AV.str p))) : Int) ≤ (↑(List.map AV.str p).length : Int) + 0, (encVs l)[n.toNat]? = some (eV hx k), 0 ≤ n, decide (n < 0) = false, MZ W 33 [eV h l, .str s] [] (.ret (iA n) []), (List.map AV.str p)[0]? = some (AV.str s), decide ((↑(List.map AV.str p).length : Int) = 0) = false]) := by kernel_rfl
theorem p47_0 (W : World) (ps out : List (List (List UInt8))) (s : List UInt8) : sF W { lp := true, fin := 9 } 47 [.sl 1 (ppA ps) [], .str s] [] 100000 [ee, .loopM [] [(100000, 1)] (S47 ps [] s 0) (.exit 0) (E47 out), ee, .fin [] [] (.tup [.gs 100000 0 out.length, bA false]) [(100000, .arr 22 1 (ppA out) .own)], ee] [] = .ok (.ret (.tup [.gs 100000 0 out.length, bA false]) [(100000, .arr 22 1 (ppA out) .own)], [ee], [MatchK [] [] [] { t := [(0, .tup [.gs 100000 0 out.length, bA false])], h := [(100000, .arr 22 1 (ppA out) .own)] } { t := [(0, .tup [.gs 100000 0 out.length, bA false])], h := [(100000, .arr 22 1 (ppA out) .own)] }, LZ W [] 47 0 (S47 ps [] s 0) (.exit 0) (E47 out), MatchK [] [] [(100000, 1)] { t := [(1, .str s), (6, .val (Value.slice none 0 0)), (9, sL 1 (ppA ps)), (10, iA (↑(ppA ps).length : Int)), (11, iA 0)], h := [] } (S47 ps [] s 0)]) := by kernel_rfl
theorem q47_0 (W : World) (ps : List (List (List UInt8))) (s : List UInt8) : sF W { lp := true } 47 [.sl 1 (ppA ps) [], .str s] [] 100000 [ee, .loopM [] [(100000, 1)] (S47 ps [] s 0) .ret R47, ee] [] = .ok (.ret (.tup [.val (Value.slice none 0 0), bA true]) [], [ee], [LZ W [] 47 0 (S47 ps [] s 0) .ret R47, MatchK [] [] [(100000, 1)] { t := [(1, .str s), (6, .val (Value.slice none 0 0)), (9, sL 1 (ppA ps)), (10, iA (↑(ppA ps).length : Int)), (11, iA 0)], h := [] } (S47 ps [] s 0)]) := by kernel_rfl
theorem p24_0 (W : World) (ps : List (List (List UInt8))) : sF W { lp := true } 24 [.sl 1 (ppA ps) []] [] 100000 [ee, .loopM [] [] (S24 ps 0) (.exit 0) E0, ee] [] = .ok (.ret (.tup [iA 0, bA false]) [], [ee], [LZ W [] 24 0 (S24 ps 0) (.exit 0) E0, MatchK [] [] [] { t := [(0, sL 1 (ppA ps)), (4, iA 0)], h := [] } (S24 ps 0)]) := by kernel_rfl
theorem q24_0 (W : World) (ps : List (List (List UInt8))) (i : Nat) : sF W { lp := true } 24 [.sl 1 (ppA ps) []] [] 100000 [ee, .loopM [] [] (S24 ps 0) .ret (R24 i), ee] [] = .ok (.ret (.tup [iA (↑i : Int), bA true]) [], [ee], [LZ W [] 24 0 (S24 ps 0) .ret (R24 i), MatchK [] [] [] { t := [(0, sL 1 (ppA ps)), (4, iA 0)], h := [] } (S24 ps 0)]) := by kernel_rfl
theorem p45_0 (W : World) (p : List (List UInt8)) : sF W { lp := true } 45 [.sl 1 (p.map AV.str) [], .val (.func (.func 27) #[] #[])] [] 100000 [ee, .loopM [] [] (S45 p 0) (.exit 0) E0, ee] [] = .ok (.ret (iA (-1)) [], [ee], [LZ W [] 45 0 (S45 p 0) (.exit 0) E0, MatchK [] [] [] { t := [(0, sL 1 (List.map AV.str p)), (1, .val (Value.func (Fn.func 27) #[] #[])), (7, iA (↑(List.map AV.str p).length : Int)), (8, iA 0)], h := [] } (S45 p 0)]) := by kernel_rfl
theorem p26_0 (W : World) (p : List (List UInt8)) (n : Int) : sF W { lp := true, tl := [45] } 26 [.sl 1 (p.map AV.str) [], .val (.func (.func 27) #[] #[])] [] 100000 [ee, cR (iA n) [], ee] [] = .ok (.ret (bA (decide (0 ≤ n))) [], [ee], [MZ W 45 [sL 1 (List.map AV.str p), .val (Value.func (Fn.func 27) #[] #[])] [] (.ret (iA n) [])]) := by kernel_rfl
theorem b18o_0 (W : World) (h : JH) (l : List JV) (d : Int) (cl : Bool) (i : Nat) (x : List UInt8) : sQ W { lp := true, tl := [34, 35, 36, 18] } 18 0 [] [1, 2, 4, 6] (S18 h l d i) [bt, bt, bt, bt, bt, aE 1, oS (.str x), bt, bt, ee, cR (bA cl) [], bt, bt, bt, ee] = .ok ((.ret, { t := [(1, iA d), (2, .gp 100000 0), (4, iA 18), (6, iA (↑i : Int))], h := [(100000, gB (eV h l))] }), [ee], ((!cl) = true) :: (d2 (decide (h.kind = 6) = true) (MZ W 35 [.str x] [] (.ret (bA cl) []) :: (d2 (decide (h.kind = 6) = true) (((List.map AV.str h.names)[(↑i : Int).toNat]? = some (AV.str x)) :: (d4 (decide (h.kind = 6) = true) [decide ((↑i : Int) < (↑(encVs l).length : Int)) = true])))))) := by kernel_rfl
theorem b18o_1 (W : World) (h : JH) (l : List JV) (d : Int) (cl hs : Bool) (i : Nat) (x : List UInt8) : sQ W { lp := true, tl := [34, 35, 36, 18] } 18 0 [] [1, 2, 4, 6] (S18 h l d i) [bt, bt, bt, bt, bt, aE 1, oS (.str x), bt, bt, ee, cR (bA cl) [], bt, bt, bf, bt, bt, bt, bt, aE 1, .lg, bt, bt, bt, bt, aE 1, oS (.str x), bt, bt, ee, cR (bA hs) [], bt, bt, ee] = .ok ((.ret, { t := [(1, iA d), (2, .gp 100000 0), (4, iA 16), (6, iA (↑i : Int))], h := [(100000, gB (eV h l))] }), [ee], (hs = true) :: (decide (h.kind = 6) = true) :: MZ W 36 [AV.sl 1 (List.drop 0 (List.take (↑i : Int).toNat (List.map AV.str h.names ++ []))) (List.drop (↑i : Int).toNat (List.map AV.str h.names ++ [])), .str x] [] (.ret (bA hs) []) :: (d2 (decide (h.kind = 6) = true) (((List.map AV.str h.names)[(↑i : Int).toNat]? = some (AV.str x)) :: (d4 (decide (h.kind = 6) = true) ((0 ≤ (↑i : Int) ∧ (↑i : Int) ≤ (↑(List.map AV.str h.names).length : Int) + 0) :: (d4 (decide (h.kind = 6) = true) (((!cl) = false) :: (d2 (decide (h.kind = 6) = true) (MZ W 35 [.str x] [] (.ret (bA cl) []) :: (d2 (decide (h.kind = 6) = true) (((List.map AV.str h.names)[(↑i : Int).toNat]? = some (AV.str x)) :: (d4 (decide (h.kind = 6) = true) [decide ((↑i : Int) < (↑(encVs l).length : Int)) = true])))))))))))) := by kernel_rfl
theorem b18o_2 (W : World) (h hx : JH) (l k : List JV) (d e : Int) (cl hs : Bool) (i : Nat) (x : List UInt8) : sQ W { lp := true, tl := [34, 35, 36, 18] } 18 0 [] [1, 2, 4, 6] (S18 h l d i) [bt, bt, bt, bt, bt, aE 1, oS (.str x), bt, bt, ee, cR (bA cl) [], bt, bt, bf, bt, bt, bt, bt, aE 1, .lg, bt, bt, bt, bt, aE 1, oS (.str x), bt, bt, ee, cR (bA hs) [], bt, bf, aE 1, oS (eV hx k), ee, cR (iA e) [], bt, ee] = .ok ((.ret, { t := [(1, iA d), (2, .gp 100000 0), (4, iA e), (6, iA (↑i : Int))], h := [(100000, gB (eV h l))] }), [ee], ((!decide (e = 0)) = true) :: MZ W 18 [eV hx k, iA (IntKind.i64.wrap (d + 1))] [] (.ret (iA e) []) :: ((encVs l)[(↑i : Int).toNat]? = some (eV hx k)) :: (hs = false) :: (decide (h.kind = 6) = true) :: MZ W 36 [AV.sl 1 (List.drop 0 (List.take (↑i : Int).toNat (List.map AV.str h.names ++ []))) (List.drop (↑i : Int).toNat (List.map AV.str h.names ++ [])), .str x] [] (.ret (bA hs) []) :: (d2 (decide (h.kind = 6) = true) (((List.map AV.str h.names)[(↑i : Int).toNat]? = some (AV.str x)) :: (d4 (decide (h.kind = 6) = true) ((0 ≤ (↑i : Int) ∧ (↑i : Int) ≤ (↑(List.map AV.str h.names).length : Int) + 0) :: (d4 (decide (h.kind = 6) = true) (((!cl) = false) :: (d2 (decide (h.kind = 6) = true) (MZ W 35 [.str x] [] (.ret (bA cl) []) :: (d2 (decide (h.kind = 6) = true) (((List.map AV.str h.names)[(↑i : Int).toNat]? = some (AV.str x)) :: (d4 (decide (h.kind = 6) = true) [decide ((↑i : Int) < (↑(encVs l).length : Int)) = true])))))))))))) := by kernel_rfl
theorem b18o_3 (W : World) (h hx : JH) (l k : List JV) (d e : Int) (cl hs : Bool) (i : Nat) (x : List UInt8) : sQ W { lp := true, tl := [34, 35, 36, 18] } 18 0 [] [1, 2, 4, 6] (S18 h l d i) [bt, bt, bt, bt, bt, aE 1, oS (.str x), bt, bt, ee, cR (bA cl) [], bt, bt, bf, bt, bt, bt, bt, aE 1, .lg, bt, bt, bt, bt, aE 1, oS (.str x), bt, bt, ee, cR (bA hs) [], bt, bf, aE 1, oS (eV hx k), ee, cR (iA e) [], bf, ee] = .ok ((.normal, { t := [(1, iA d), (2, .gp 100000 0), (6, iA (IntKind.i64.wrap ((↑i : Int) + 1)))], h := [(100000, gB (eV h l))] }), [ee], ((!decide (e = 0)) = false) :: MZ W 18 [eV hx k, iA (IntKind.i64.wrap (d + 1))] [] (.ret (iA e) []) :: ((encVs l)[(↑i : Int).toNat]? = some (eV hx k)) :: (hs = false) :: (decide (h.kind = 6) = true) :: MZ W 36 [AV.sl 1 (List.drop 0 (List.take (↑i : Int).toNat (List.map AV.str h.names ++ []))) (List.drop (↑i : Int).toNat (List.map AV.str h.names ++ [])), .str x] [] (.ret (bA hs) []) :: (d2 (decide (h.kind = 6) = true) (((List.map AV.str h.names)[(↑i : Int).toNat]? = some (AV.str x)) :: (d4 (decide (h.kind = 6) = true) ((0 ≤ (↑i : Int) ∧ (↑i : Int) ≤ (↑(List.map AV.str h.names).length : Int) + 0) :: (d4 (decide (h.kind = 6) = true) (((!cl) = false) :: (d2 (decide (h.kind = 6) = true) (MZ W 35 [.str x] [] (.ret (bA cl) []) :: (d2 (decide (h.kind = 6) = true) (((List.map AV.str h.names)[(↑i : Int).toNat]? = some (AV.str x)) :: (d4 (decide (h.kind = 6) = true) [decide ((↑i : Int) < (↑(encVs l).length : Int)) = true])))))))))))) := by kernel_rfl
theorem b18o_4 (W : World) (h : JH) (l : List JV) (d : Int) (i : Nat) : sQ W { lp := true, tl := [34, 35, 36, 18] } 18 0 [] [1, 2, 4, 6] (S18 h l d i) [bf, ee] = .ok ((.exit 0, { t := [(1, iA d), (2, .gp 100000 0), (6, iA (↑i : Int))], h := [(100000, gB (eV h l))] }), [ee], [decide ((↑i : Int) < (↑(encVs l).length : Int)) = false]) := by kernel_rfl
theorem b18n_0 (W : World) (h hx : JH) (l k : List JV) (d e : Int) (i : Nat) : sQ W { lp := true, tl := [34, 35, 36, 18] } 18 0 [] [1, 2, 4, 6] (S18 h l d i) [bt, bf, bf, bf, bf, bf, bf, bf, bf, aE 1, bf, bf, bf, bf, bf, bf, bf, bf, bf, bf, bf, aE 2, oS (eV hx k), ee, cR (iA e) [], bt, ee] = .ok ((.ret, { t := [(1, iA d), (2, .gp 100000 0), (4, iA e), (6, iA (↑i : Int))], h := [(100000, gB (eV h l))] }), [ee], ((!decide (e = 0)) = true) :: MZ W 18 [eV hx k, iA (IntKind.i64.wrap (d + 1))] [] (.ret (iA e) []) :: ((encVs l)[(↑i : Int).toNat]? = some (eV hx k)) :: (decide (h.kind = 6) = false) :: (d6 (decide (h.kind = 6) = false) (d6 (decide (h.kind = 6) = false) (d6 (decide (h.kind = 6) = false) [decide ((↑i : Int) < (↑(encVs l).length : Int)) = true])))) := by kernel_rfl
theorem b18n_1 (W : World) (h hx : JH) (l k : List JV) (d e : Int) (i : Nat) : sQ W { lp := true, tl := [34, 35, 36, 18] } 18 0 [] [1, 2, 4, 6] (S18 h l d i) [bt, bf, bf, bf, bf, bf, bf, bf, bf, aE 1, bf, bf, bf, bf, bf, bf, bf, bf, bf, bf, bf, aE 2, oS (eV hx k), ee, cR (iA e) [], bf, ee] = .ok ((.normal, { t := [(1, iA d), (2, .gp 100000 0), (6, iA (IntKind.i64.wrap ((↑i : Int) + 1)))], h := [(100000, gB (eV h l))] }), [ee], ((!decide (e = 0)) = false) :: MZ W 18 [eV hx k, iA (IntKind.i64.wrap (d + 1))] [] (.ret (iA e) []) :: ((encVs l)[(↑i : Int).toNat]? = some (eV hx k)) :: (decide (h.kind = 6) = false) :: (d6 (decide (h.kind = 6) = false) (d6 (decide (h.kind = 6) = false) (d6 (decide (h.kind = 6) = false) [decide ((↑i : Int) < (↑(encVs l).length : Int)) = true])))) := by kernel_rfl
theorem b18n_2 (W : World) (h : JH) (l : List JV) (d : Int) (i : Nat) : sQ W { lp := true, tl := [34, 35, 36, 18] } 18 0 [] [1, 2, 4, 6] (S18 h l d i) [bf, ee] = .ok ((.exit 0, { t := [(1, iA d), (2, .gp 100000 0), (6, iA (↑i : Int))], h := [(100000, gB (eV h l))] }), [ee], [decide ((↑i : Int) < (↑(encVs l).length : Int)) = false]) := by kernel_rfl
theorem b13_0 (W : World) (h hx : JH) (l k : List JV) (cl : Bool) (i : Nat) : sQ W { lp := true, tl := [13] } 13 0 [] [1, 2, 3] (S13 h l i) [bt, aE 1, oS (eV hx k), ee, cR (bA cl) [], bt, ee] = .ok ((.ret, { t := [(1, .gp 100000 0), (2, bA false), (3, iA (↑i : Int))], h := [(100000, gB (eV h l))] }), [ee], [(!cl) = true, MZ W 13 [eV hx k] [] (.ret (bA cl) []), (encVs l)[(↑i : Int).toNat]? = some (eV hx k), decide ((↑i : Int) < (↑(encVs l).length : Int)) = true]) := by kernel_rfl
theorem b13_1 (W : World) (h hx : JH) (l k : List JV) (cl : Bool) (i : Nat) : sQ W { lp := true, tl := [13] } 13 0 [] [1, 2, 3] (S13 h l i) [bt, aE 1, oS (eV hx k), ee, cR (bA cl) [], bf, ee] = .ok ((.normal, { t := [(1, .gp 100000 0), (3, iA (IntKind.i64.wrap ((↑i : Int) + 1)))], h := [(100000, gB (eV h l))] }), [ee], [(!cl) = false, MZ W 13 [eV hx k] [] (.ret (bA cl) []), (encVs l)[(↑i : Int).toNat]? = some (eV hx k), decide ((↑i : Int) < (↑(encVs l).length : Int)) = true]) := by kernel_rfl
theorem b13_2 (W : World) (h : JH) (l : List JV) (i : Nat) : sQ W { lp := true, tl := [13] } 13 0 [] [1, 2, 3] (S13 h l i) [bf, ee] = .ok ((.exit 0, { t := [(1, .gp 100000 0), (3, iA (↑i : Int))], h := [(100000, gB (eV h l))] }), [ee], [decide ((↑i : Int) < (↑(encVs l).length : Int)) = false]) := by kernel_rfl
theorem b16_0 (W : World) (h hx : JH) (l k : List JV) (e n m : Int) (i : Nat) : sQ W { lp := true, tl := [16, 22] } 16 0 [] [1, 3, 4] (S16 h l n i) [ee, cR (iA m) [], bt, aE 1, oS (eV hx k), ee, cR (iA e) [], ee] = .ok ((.normal, { t := [(1, .gp 100000 0), (3, iA (IntKind.i64.wrap (n + e))), (4, iA (IntKind.i64.wrap ((↑i : Int) + 1)))], h := [(100000, gB (eV h l))] }), [ee], [MZ W 16 [eV hx k] [] (.ret (iA e) []), (encVs l)[(↑i : Int).toNat]? = some (eV hx k), decide ((↑i : Int) < m) = true, MZ W 22 [eV h l] [] (.ret (iA m) [])]) := by kernel_rfl
theorem b16_1 (W : World) (h : JH) (l : List JV) (n m : Int) (i : Nat) : sQ W { lp := true, tl := [16, 22] } 16 0 [] [1, 3, 4] (S16 h l n i) [ee, cR (iA m) [], bf, ee] = .ok ((.exit 0, { t := [(1, .gp 100000 0), (3, iA n), (4, iA (↑i : Int))], h := [(100000, gB (eV h l))] }), [ee], [decide ((↑i : Int) < m) = false, MZ W 22 [eV h l] [] (.ret (iA m) [])]) := by kernel_rfl
theorem b47_0 (W : World) (ps out : List (List (List UInt8))) (p : List (List UInt8)) (s x : List UInt8) (i : Nat) : sQ W { lp := true } 47 0 [] [1, 4, 5, 6, 9, 10, 11] (S47 ps out s i) [bt, aE 1, oS (sL 1 (List.map AV.str p)), aE 1, oS (.str x), bt, ee] = .ok ((.normal, { t := [(1, .str s), (6, .gs 100000 0 out.length), (9, sL 1 (ppA ps)), (10, iA (↑(ppA ps).length : Int)), (11, iA (IntKind.i64.wrap ((↑i : Int) + 1)))], h := [(100000, .arr 22 1 (ppA out) .own)] }), [ee], [(!decide (x = s)) = true, (List.map AV.str p)[0]? = some (AV.str x), (ppA ps)[(↑i : Int).toNat]? = some (sL 1 (List.map AV.str p)), decide ((↑i : Int) < (↑(ppA ps).length : Int)) = true]) := by kernel_rfl
theorem b47_1 (W : World) (ps out : List (List (List UInt8))) (p : List (List UInt8)) (s x : List UInt8) (i : Nat) : sQ W { lp := true } 47 0 [] [1, 4, 5, 6, 9, 10, 11] (S47 ps out s i) [bt, aE 1, oS (sL 1 (List.map AV.str p)), aE 1, oS (.str x), bf, bt, ee] = .ok ((.ret, { t := [(1, .str s), (4, .val (Value.slice none 0 0)), (5, bA true), (6, .gs 100000 0 out.length), (9, sL 1 (ppA ps)), (10, iA (↑(ppA ps).length : Int)), (11, iA (↑i : Int))], h := [(100000, .arr 22 1 (ppA out) .own)] }), [ee], [decide ((↑(List.map AV.str p).length : Int) = 1) = true, (!decide (x = s)) = false, (List.map AV.str p)[0]? = some (AV.str x), (ppA ps)[(↑i : Int).toNat]? = some (sL 1 (List.map AV.str p)), decide ((↑i : Int) < (↑(ppA ps).length : Int)) = true]) := by kernel_rfl
theorem b47_2 (W : World) (ps out : List (List (List UInt8))) (p : List (List UInt8)) (s x : List UInt8) (i : Nat) : sQ W { lp := true } 47 0 [] [1, 4, 5, 6, 9, 10, 11] (S47 ps out s i) [bt, aE 1, oS (sL 1 (List.map AV.str p)), aE 1, oS (.str x), bf, bf, aE 1, .lg, aE 1, .lg, .lg, ee] = .ok ((.normal, { t := [(1, .str s), (6, .gs 100002 0 (out.length + [AV.sl 1 (List.drop 1 (List.take (↑(defLen (sL 1 (List.map AV.str p))) : Int).toNat (List.map AV.str p ++ []))) (List.drop (↑(defLen (sL 1 (List.map AV.str p))) : Int).toNat (List.map AV.str p ++ []))].length)), (9, sL 1 (ppA ps)), (10, iA (↑(ppA ps).length : Int)), (11, iA (IntKind.i64.wrap ((↑i : Int) + 1)))], h := [(100000, .dead), (100001, .arr 22 1 [AV.sl 1 (List.drop 1 (List.take (↑(defLen (sL 1 (List.map AV.str p))) : Int).toNat (List.map AV.str p ++ []))) (List.drop (↑(defLen (sL 1 (List.map AV.str p))) : Int).toNat (List.map AV.str p ++ []))] .own), (100002, .arr 22 1 (List.take out.length (ppA out) ++ [AV.sl 1 (List.drop 1 (List.take (↑(defLen (sL 1 (List.map AV.str p))) : Int).toNat (List.map AV.str p ++ []))) (List.drop (↑(defLen (sL 1 (List.map AV.str p))) : Int).toNat (List.map AV.str p ++ []))]) .own)] }), [ee], [(out.length + [AV.sl 1 (List.drop 1 (List.take (↑(defLen (sL 1 (List.map AV.str p))) : Int).toNat (List.map AV.str p ++ []))) (List.drop (↑(defLen (sL 1 (List.map AV.str p))) : Int).toNat (List.map AV.str p ++ []))].length) * 24 ≤ 140737488355328, (St.own = St.own ∨ St.own = St.shr ∧ out.length = (ppA out).length) ∧ out.length ≤ (ppA out).length, 1 ≤ (↑(defLen (sL 1 (List.map AV.str p))) : Int) ∧ (↑(defLen (sL 1 (List.map AV.str p))) : Int) ≤ (↑(List.map AV.str p).length : Int) + 0, decide ((↑(List.map AV.str p).length : Int) = 1) = false, (!decide (x = s)) = false, (List.map AV.str p)[0]? = some (AV.str x), (ppA ps)[(↑i : Int).toNat]? = some (sL 1 (List.map AV.str p)), decide ((↑i : Int) < (↑(ppA ps).length : Int)) = true]) := by kernel_rfl
theorem b47_3 (W : World) (ps out : List (List (List UInt8))) (s : List UInt8) (i : Nat) : sQ W { lp := true } 47 0 [] [1, 4, 5, 6, 9, 10, 11] (S47 ps out s i) [bf, ee] = .ok ((.exit 0, { t := [(1, .str s), (6, .gs 100000 0 out.length), (9, sL 1 (ppA ps)), (10, iA (↑(ppA ps).length : Int)), (11, iA (↑i : Int))], h := [(100000, .arr 22 1 (ppA out) .own)] }), [ee], [decide ((↑i : Int) < (↑(ppA ps).length : Int)) = false]) := by kernel_rfl
theorem b24_0 (W : World) (ps : List (List (List UInt8))) (i : Nat) : sQ W { lp := true } 24 0 [] [0, 2, 3, 4] (S24 ps i) [bt, ee, .loopM [] [] (T24 ps i 0) (.exit 2) (S24 ps i), ee] = .ok ((.normal, { t := [(0, sL 1 (ppA ps)), (4, iA (IntKind.i64.wrap ((↑i : Int) + 1)))], h := [] }), [ee], [LZ W [] 24 1 (T24 ps i 0) (.exit 2) (S24 ps i), MatchK [] [] [] { t := [(0, sL 1 (ppA ps)), (4, iA (↑i : Int)), (5, iA 0)], h := [] } (T24 ps i 0), decide ((↑i : Int) < (↑(ppA ps).length : Int)) = true]) := by kernel_rfl
theorem b24_1 (W : World) (ps : List (List (List UInt8))) (i : Nat) : sQ W { lp := true } 24 0 [] [0, 2, 3, 4] (S24 ps i) [bf, ee] = .ok ((.exit 0, { t := [(0, sL 1 (ppA ps)), (4, iA (↑i : Int))], h := [] }), [ee], [decide ((↑i : Int) < (↑(ppA ps).length : Int)) = false]) := by kernel_rfl
theorem c24_0 (W : World) (ps : List (List (List UInt8))) (i : Nat) : sQ W { lp := true } 24 0 [] [0, 2, 3, 4] (S24 ps i) [bt, ee, .loopM [] [] (T24 ps i 0) .ret (R24 i), ee] = .ok ((.ret, { t := [(2, iA (↑i : Int)), (3, bA true)], h := [] }), [ee], [LZ W [] 24 1 (T24 ps i 0) .ret (R24 i), MatchK [] [] [] { t := [(0, sL 1 (ppA ps)), (4, iA (↑i : Int)), (5, iA 0)], h := [] } (T24 ps i 0), decide ((↑i : Int) < (↑(ppA ps).length : Int)) = true]) := by kernel_rfl
theorem d24_0 (W : World) (ps : List (List (List UInt8))) (p q2 : List (List UInt8)) (i k : Nat) (b : Bool) : sQ W { lp := true, tl := [42] } 24 1 [] [0, 2, 3, 4, 5] (T24 ps i k) [bt, aE 1, oS (sL 1 (List.map AV.str p)), aE 1, oS (sL 1 (List.map AV.str q2)), ee, cR (bA b) [], bt, ee] = .ok ((.ret, { t := [(0, sL 1 (ppA ps)), (2, iA (↑i : Int)), (3, bA true), (4, iA (↑i : Int)), (5, iA (↑k : Int))], h := [] }), [ee], [b = true, MZ W 42 [sL 1 (List.map AV.str p), sL 1 (List.map AV.str q2)] [] (.ret (bA b) []), (ppA ps)[(↑k : Int).toNat]? = some (sL 1 (List.map AV.str q2)), (ppA ps)[(↑i : Int).toNat]? = some (sL 1 (List.map AV.str p)), decide ((↑k : Int) < (↑i : Int)) = true]) := by kernel_rfl
theorem d24_1 (W : World) (ps : List (List (List UInt8))) (p q2 : List (List UInt8)) (i k : Nat) (b : Bool) : sQ W { lp := true, tl := [42] } 24 1 [] [0, 2, 3, 4, 5] (T24 ps i k) [bt, aE 1, oS (sL 1 (List.map AV.str p)), aE 1, oS (sL 1 (List.map AV.str q2)), ee, cR (bA b) [], bf, ee] = .ok ((.normal, { t := [(0, sL 1 (ppA ps)), (4, iA (↑i : Int)), (5, iA (IntKind.i64.wrap ((↑k : Int) + 1)))], h := [] }), [ee], [b = false, MZ W 42 [sL 1 (List.map AV.str p), sL 1 (List.map AV.str q2)] [] (.ret (bA b) []), (ppA ps)[(↑k : Int).toNat]? = some (sL 1 (List.map AV.str q2)), (ppA ps)[(↑i : Int).toNat]? = some (sL 1 (List.map AV.str p)), decide ((↑k : Int) < (↑i : Int)) = true]) := by kernel_rfl
theorem d24_2 (W : World) (ps : List (List (List UInt8))) (i k : Nat) : sQ W { lp := true, tl := [42] } 24 1 [] [0, 2, 3, 4, 5] (T24 ps i k) [bf, ee] = .ok ((.exit 2, { t := [(0, sL 1 (ppA ps)), (4, iA (↑i : Int)), (5, iA (↑k : Int))], h := [] }), [ee], [decide ((↑k : Int) < (↑i : Int)) = false]) := by kernel_rfl
theorem b45_1 (W : World) (p : List (List UInt8)) (x : List UInt8) (i : Nat) : sQ W { lp := true, tl := [28] } 45 0 [] [0, 1, 4, 7, 8] (S45 p i) [bt, aE 1, oS (.str x), ee, cR (idxA x) [], bf, ee] = .ok ((.normal, { t := [(0, sL 1 (List.map AV.str p)), (1, .val (Value.func (Fn.func 27) #[] #[])), (7, iA (↑(List.map AV.str p).length : Int)), (8, iA (IntKind.i64.wrap ((↑i : Int) + 1)))], h := [] }), [ee], [idxOk x = false, MZ W 28 [.str x] [] (.ret (.tup [iA (↑(idx x) : Int), bA (idxOk x)]) []), (List.map AV.str p)[(↑i : Int).toNat]? = some (AV.str x), decide ((↑i : Int) < (↑(List.map AV.str p).length : Int)) = true]) := by kernel_rfl
theorem b45_2 (W : World) (p : List (List UInt8)) (i : Nat) : sQ W { lp := true, tl := [28] } 45 0 [] [0, 1, 4, 7, 8] (S45 p i) [bf, ee] = .ok ((.exit 0, { t := [(0, sL 1 (List.map AV.str p)), (1, .val (Value.func (Fn.func 27) #[] #[])), (7, iA (↑(List.map AV.str p).length : Int)), (8, iA (↑i : Int))], h := [] }), [ee], [decide ((↑i : Int) < (↑(List.map AV.str p).length : Int)) = false]) := by kernel_rfl
theorem Ha2_z1 {kp f ph σ σ'} (h : MatchK kp f ph σ σ' := by exact ⟨by rfl, (by simp only [E0, R4i, R2b, S18, S13, S16, E16, S47, E47, R47, S24, T24, R24, S45, tOK, List.map_cons, List.map_nil, and_true] <;> exact zt), (by simp only [E0, R4i, R2b, S18, S13, S16, E16, S47, E47, R47, S24, T24, R24, S45, hOK, List.map_cons, List.map_nil, and_true] <;> exact zh), (by simp only [E0, R4i, R2b, S18, S13, S16, E16, S47, E47, R47, S24, T24, R24, S45, liveT, List.map_cons, List.map_nil, and_true] <;> exact zv), (by simp only [E0, R4i, R2b, S18, S13, S16, E16, S47, E47, R47, S24, T24, R24, S45, liveH, List.map_cons, List.map_nil, and_true] <;> exact zv)⟩) : MatchK kp f ph σ σ' := h
theorem Ha2_z2 {cs} (h : Holds cs := by simp only [Holds, and_true] <;> and_intros <;> first | assumption | exact zd | exact Ha2_z1) : Holds cs := h
theorem call18h : callable Tryz.prog 18 = true := by kernel_rfl
theorem call5h : callable Tryz.prog 5 = true := by kernel_rfl
theorem call13h : callable Tryz.prog 13 = true := by kernel_rfl
theorem call16h : callable Tryz.prog 16 = true := by kernel_rfl
theorem call22h : callable Tryz.prog 22 = true := by kernel_rfl
theorem call15h : callable Tryz.prog 15 = true := by kernel_rfl
theorem call47h : callable Tryz.prog 47 = true := by kernel_rfl
theorem call24h : callable Tryz.prog 24 = true := by kernel_rfl
theorem call45h : callable Tryz.prog 45 = true := by kernel_rfl
theorem call26h : callable Tryz.prog 26 = true := by kernel_rfl
section
variable (W : World)
theorem getD_get {ns : List (List UInt8)} {i : Nat} {s : List UInt8} (h : ns[i]? = some s) : ns[i]?.getD [] = s := by rw [h]; rfl
theorem ppA_get {ps : List (List (List UInt8))} {i : Nat} {p : List (List UInt8)} (h : ps[i]? = some p) : (ppA ps)[i]? = some (.sl 1 (p.map AV.str) []) := by unfold ppA; rw [List.getElem?_map, h]; rfl
theorem ppA_len (ps : List (List (List UInt8))) : (ppA ps).length = ps.length := by unfold ppA; rw [List.length_map]
theorem ppA_clo : ∀ ps : List (List (List UInt8)), cloL (ppA ps) = true
  | [] => rfl
  | p :: ps => by show (AV.clo (.sl 1 (p.map AV.str) []) && cloL (ppA ps)) = true; rw [ppA_clo ps]; rfl
theorem clo1 (v : JV) : cloL [encV v] = true := by simp [cloL, encV_clo]
theorem clo2 (v : JV) (n : Int) : cloL [encV v, iA n] = true := by simp [cloL, encV_clo, AV.clo, iA]
theorem loop18 (h : JH) (l : List JV) (d : Int) (hok : okV (.mk h l)) (hd : 0 ≤ d) (hd2 : d ≤ 64) (hp : plB h l.length = true) (ih : ∀ (i : Nat) (x : JV), l[i]? = some x → Pure Tryz.prog W 18 [encV x, iA (d + 1)] (iA (chkV x (d + 1)))) :
    ∀ (j i : Nat), l.length - i = j → i ≤ l.length → (chkL h.kind h.names (l.drop i) d i = 0 ∧ LoopC Tryz.prog W [] (nslots Tryz.prog 18) (loopOf Tryz.prog 18 0) (S18 h l d i) (.exit 0) E0) ∨ (chkL h.kind h.names (l.drop i) d i ≠ 0 ∧ LoopC Tryz.prog W [] (nslots Tryz.prog 18) (loopOf Tryz.prog 18 0) (S18 h l d i) .ret (R4i (chkL h.kind h.names (l.drop i) d i))) := by
  have hl2 := okV_ln hok
  simp only [JV.items] at hl2
  have hn2 := okV_nm hok
  simp only [JV.names, JV.hd] at hn2
  intro j
  induction j with
  | zero =>
    intro i hj hi
    have e : decide ((i : Int) < ((encVs l).length : Int)) = false := by rw [encVs_len]; exact decide_eq_false (by omega)
    refine .inl ⟨by rw [List.drop_of_length_le (by omega), chkL], ?_⟩
    by_cases k6 : h.kind = 6
    · have c6 := decide_eq_true k6
      exact loop_last (by simp) (body_of_sbodyK mixedz (b18o_4 W h l d i) Ha2_z2 [] [] Ha2_z1)
    · have c6 := decide_eq_false k6
      exact loop_last (by simp) (body_of_sbodyK mixedz (b18n_2 W h l d i) Ha2_z2 [] [] Ha2_z1)
  | succ j ihj =>
    intro i hj hi
    obtain ⟨x, hx⟩ := getOf (l := l) (i := i) (by omega)
    have e : decide ((i : Int) < ((encVs l).length : Int)) = true := by rw [encVs_len]; exact decide_eq_true (by omega)
    obtain ⟨hx1, k⟩ := x
    have hget : (encVs l)[((i : Int)).toNat]? = some (encV (.mk hx1 k)) := by rw [Int.toNat_natCast]; exact encVs_get hx
    have hws : IntKind.i64.wrap ((i : Int) + 1) = ((i + 1 : Nat) : Int) := wrap_succ (by omega)
    have hwd : IntKind.i64.wrap (d + 1) = d + 1 := IntWalk.i64_in _ (by omega)
    have hc18 : MutC Tryz.prog W 18 [encV (.mk hx1 k), iA (IntKind.i64.wrap (d + 1))] [] (.ret (iA (chkV (.mk hx1 k) (d + 1))) []) := by rw [hwd]; exact mut_of_pure (by rfl) (ih i _ hx)
    rw [chkL_at hx]
    by_cases k6 : h.kind = 6
    · have c6 := decide_eq_true k6
      have hnl := plB_len hp k6
      obtain ⟨s, hs⟩ := getOf (l := h.names) (i := i) (by omega)
      rw [getD_get hs]
      have hgs : (h.names.map AV.str)[((i : Int)).toNat]? = some (AV.str s) := by rw [Int.toNat_natCast]; exact strs_get hs
      have hc35 := mut_of_pure (by rfl) (clean35 W s)
      have hle : (i : Int) ≤ ((h.names.map AV.str).length : Int) + 0 := by rw [List.length_map]; omega
      have hc36 : MutC Tryz.prog W 36 [AV.sl 1 (List.drop 0 (List.take ((i : Int)).toNat (List.map AV.str h.names ++ []))) (List.drop ((i : Int)).toNat (List.map AV.str h.names ++ [])), AV.str s] [] (.ret (bA (hasB (h.names.take i) s)) []) := by
        have e1 : List.drop 0 (List.take ((i : Int)).toNat (List.map AV.str h.names ++ [])) = (h.names.take i).map AV.str := by rw [Int.toNat_natCast, List.append_nil, List.drop_zero, List.map_take]
        rw [e1]
        exact mut_le (.cons (.rest _ _ _) (.cons (.refl _) .nil)) (mut_of_pure (by rfl) (has36 W (h.names.take i) s (by rw [List.length_take]; omega)))
      have h0i : (0 : Int) ≤ (i : Int) ∧ (i : Int) ≤ ((h.names.map AV.str).length : Int) + 0 := ⟨by omega, hle⟩
      cases hcl : clB s with
      | false =>
        rw [hcl] at hc35
        have c1 : (!false) = true := rfl
        rw [if_pos ⟨k6, rfl⟩]
        exact .inr ⟨by omega, loop_last (by simp) (body_of_sbodyK mixedz (b18o_0 W h l d false i s) Ha2_z2 [] [] Ha2_z1)⟩
      | true =>
        rw [hcl] at hc35
        have c1 : (!true) = false := rfl
        rw [if_neg (by rintro ⟨_, e⟩; cases e)]
        cases hhs : hasB (h.names.take i) s with
        | true =>
          rw [hhs] at hc36
          rw [if_pos ⟨k6, rfl⟩]
          exact .inr ⟨by omega, loop_last (by simp) (body_of_sbodyK mixedz (b18o_1 W h l d true true i s) Ha2_z2 [] [] Ha2_z1)⟩
        | false =>
          rw [hhs] at hc36
          rw [if_neg (by rintro ⟨_, e⟩; cases e)]
          by_cases he : chkV (.mk hx1 k) (d + 1) = 0
          · have c2 : (!decide (chkV (.mk hx1 k) (d + 1) = 0)) = false := by rw [decide_eq_true he]; rfl
            rw [if_neg (by simpa using he)]
            have hb := body_of_sbodyK mixedz (b18o_3 W h hx1 l k d (chkV (.mk hx1 k) (d + 1)) true false i s) Ha2_z2 [] [] (σ3 := S18 h l d (i + 1)) Ha2_z1
            rcases ihj (i + 1) (by omega) (by omega) with ⟨g1, g2⟩ | ⟨g1, g2⟩
            · exact .inl ⟨g1, loop_next hb g2⟩
            · exact .inr ⟨g1, loop_next hb g2⟩
          · have c2 : (!decide (chkV (.mk hx1 k) (d + 1) = 0)) = true := by rw [decide_eq_false he]; rfl
            rw [if_pos he]
            exact .inr ⟨he, loop_last (by simp) (body_of_sbodyK mixedz (b18o_2 W h hx1 l k d (chkV (.mk hx1 k) (d + 1)) true false i s) Ha2_z2 [] [] Ha2_z1)⟩
    · have c6 := decide_eq_false k6
      rw [if_neg (fun e => k6 e.1), if_neg (fun e => k6 e.1)]
      by_cases he : chkV (.mk hx1 k) (d + 1) = 0
      · have c2 : (!decide (chkV (.mk hx1 k) (d + 1) = 0)) = false := by rw [decide_eq_true he]; rfl
        rw [if_neg (by simpa using he)]
        have hb := body_of_sbodyK mixedz (b18n_1 W h hx1 l k d (chkV (.mk hx1 k) (d + 1)) i) Ha2_z2 [] [] (σ3 := S18 h l d (i + 1)) Ha2_z1
        rcases ihj (i + 1) (by omega) (by omega) with ⟨g1, g2⟩ | ⟨g1, g2⟩
        · exact .inl ⟨g1, loop_next hb g2⟩
        · exact .inr ⟨g1, loop_next hb g2⟩
      · have c2 : (!decide (chkV (.mk hx1 k) (d + 1) = 0)) = true := by rw [decide_eq_false he]; rfl
        rw [if_pos he]
        exact .inr ⟨he, loop_last (by simp) (body_of_sbodyK mixedz (b18n_0 W h hx1 l k d (chkV (.mk hx1 k) (d + 1)) i) Ha2_z2 [] [] Ha2_z1)⟩
theorem check18 : ∀ (n : Nat) (v : JV) (d : Int), sizeV v < n → okV v → 0 ≤ d → d ≤ 65 → Pure Tryz.prog W 18 [encV v, iA d] (iA (chkV v d))
  | 0, _, _, h, _, _, _ => by omega
  | n + 1, .mk h l, d, hs, hok, hd, hd5 => by
    have hc34 : MutC Tryz.prog W 34 [encV (.mk h l)] [] (.ret (bA (plB h l.length)) []) := mut_of_pure (by rfl) (plain34 W (.mk h l))
    have hc35 := mut_of_pure (by rfl) (clean35 W h.text)
    rw [chkV]
    by_cases hd4 : 64 < d
    · have c1 := decide_eq_true hd4
      rw [if_pos (.inl hd4)]
      by_cases k5 : h.kind = 5
      · have c5 := decide_eq_true k5
        exact pure_of_mut rfl (mut_of_sfun mixedz call18h rfl (p18_0 W h l d) Ha2_z2)
      have c5 := decide_eq_false k5
      exact pure_of_mut rfl (mut_of_sfun mixedz call18h rfl (p18_7 W h l d) Ha2_z2)
    have c1 := decide_eq_false hd4
    have ih : ∀ (i : Nat) (x : JV), l[i]? = some x → Pure Tryz.prog W 18 [encV x, iA (d + 1)] (iA (chkV x (d + 1))) := fun i x hx => check18 n x (d + 1) (by have := sizeV_item (v := .mk h l) hx; omega) (okV_item hok hx) (by omega) (by omega)
    by_cases k5 : h.kind = 5
    · have c5 := decide_eq_true k5
      by_cases hd6 : d = 64
      · have c2 := decide_eq_true hd6
        rw [if_pos (.inr ⟨.inl k5, hd6⟩)]
        exact pure_of_mut rfl (mut_of_sfun mixedz call18h rfl (p18_1 W h l d) Ha2_z2)
      have c2 := decide_eq_false hd6
      rw [if_neg (by rintro (e | ⟨_, e⟩); exact hd4 e; exact hd6 e)]
      by_cases k0 : h.kind < 0
      · have c3 := decide_eq_true k0
        rw [if_pos (.inl k0)]
        exact pure_of_mut rfl (mut_of_sfun mixedz call18h rfl (p18_2 W h l d) Ha2_z2)
      have c3 := decide_eq_false k0
      by_cases k6 : 6 < h.kind
      · have c4 := decide_eq_true k6
        rw [if_pos (.inr (.inl k6))]
        exact pure_of_mut rfl (mut_of_sfun mixedz call18h rfl (p18_3 W h l d) Ha2_z2)
      have c4 := decide_eq_false k6
      cases hp : plB h l.length with
      | false =>
        rw [hp] at hc34
        rw [if_pos (.inr (.inr (.inl rfl)))]
        have c5 : (!false) = true := rfl
        exact pure_of_mut rfl (mut_of_sfun mixedz call18h rfl (p18_4 W h l d false) Ha2_z2)
      | true =>
        rw [hp] at hc34
        have c5 : (!true) = false := rfl
        cases hl : clB h.text with
        | false =>
          rw [hl] at hc35
          rw [if_pos (.inr (.inr (.inr rfl)))]
          exact pure_of_mut rfl (mut_of_sfun mixedz call18h rfl (p18_5 W h l d true false) Ha2_z2)
        | true =>
          rw [hl] at hc35
          rw [if_neg (by rintro (e | e | e | e); exact k0 e; exact k6 e; cases e; cases e)]
          rcases loop18 W h l d hok hd (by omega) hp ih l.length 0 (by omega) (by omega) with ⟨e, hlp⟩ | ⟨e, hlp⟩
          · rw [List.drop_zero] at e
            rw [e]
            exact pure_of_mut rfl (mut_of_sfun mixedz call18h rfl (p18_6 W h l d true true) Ha2_z2)
          · rw [List.drop_zero] at hlp
            exact pure_of_mut rfl (mut_of_sfun mixedz call18h rfl (q18_6 W h l d (chkL h.kind h.names l d 0) true true) Ha2_z2)
    have c5 := decide_eq_false k5
    by_cases k6' : h.kind = 6
    · have c6' := decide_eq_true k6'
      by_cases hd6 : d = 64
      · have c2 := decide_eq_true hd6
        rw [if_pos (.inr ⟨.inr k6', hd6⟩)]
        exact pure_of_mut rfl (mut_of_sfun mixedz call18h rfl (p18_8 W h l d) Ha2_z2)
      have c2 := decide_eq_false hd6
      rw [if_neg (by rintro (e | ⟨_, e⟩); exact hd4 e; exact hd6 e)]
      by_cases k0 : h.kind < 0
      · have c3 := decide_eq_true k0
        rw [if_pos (.inl k0)]
        exact pure_of_mut rfl (mut_of_sfun mixedz call18h rfl (p18_9 W h l d) Ha2_z2)
      have c3 := decide_eq_false k0
      by_cases k6 : 6 < h.kind
      · have c4 := decide_eq_true k6
        rw [if_pos (.inr (.inl k6))]
        exact pure_of_mut rfl (mut_of_sfun mixedz call18h rfl (p18_10 W h l d) Ha2_z2)
      have c4 := decide_eq_false k6
      cases hp : plB h l.length with
      | false =>
        rw [hp] at hc34
        rw [if_pos (.inr (.inr (.inl rfl)))]
        have c5 : (!false) = true := rfl
        exact pure_of_mut rfl (mut_of_sfun mixedz call18h rfl (p18_11 W h l d false) Ha2_z2)
      | true =>
        rw [hp] at hc34
        have c5 : (!true) = false := rfl
        cases hl : clB h.text with
        | false =>
          rw [hl] at hc35
          rw [if_pos (.inr (.inr (.inr rfl)))]
          exact pure_of_mut rfl (mut_of_sfun mixedz call18h rfl (p18_12 W h l d true false) Ha2_z2)
        | true =>
          rw [hl] at hc35
          rw [if_neg (by rintro (e | e | e | e); exact k0 e; exact k6 e; cases e; cases e)]
          rcases loop18 W h l d hok hd (by omega) hp ih l.length 0 (by omega) (by omega) with ⟨e, hlp⟩ | ⟨e, hlp⟩
          · rw [List.drop_zero] at e
            rw [e]
            exact pure_of_mut rfl (mut_of_sfun mixedz call18h rfl (p18_13 W h l d true true) Ha2_z2)
          · rw [List.drop_zero] at hlp
            exact pure_of_mut rfl (mut_of_sfun mixedz call18h rfl (q18_13 W h l d (chkL h.kind h.names l d 0) true true) Ha2_z2)
    have c6' := decide_eq_false k6'
    rw [if_neg (by rintro (e | ⟨e | e, _⟩); exact hd4 e; exact k5 e; exact k6' e)]
    by_cases k0 : h.kind < 0
    · have c3 := decide_eq_true k0
      rw [if_pos (.inl k0)]
      exact pure_of_mut rfl (mut_of_sfun mixedz call18h rfl (p18_14 W h l d) Ha2_z2)
    have c3 := decide_eq_false k0
    by_cases k6 : 6 < h.kind
    · have c4 := decide_eq_true k6
      rw [if_pos (.inr (.inl k6))]
      exact pure_of_mut rfl (mut_of_sfun mixedz call18h rfl (p18_15 W h l d) Ha2_z2)
    have c4 := decide_eq_false k6
    cases hp : plB h l.length with
    | false =>
      rw [hp] at hc34
      rw [if_pos (.inr (.inr (.inl rfl)))]
      have c5 : (!false) = true := rfl
      exact pure_of_mut rfl (mut_of_sfun mixedz call18h rfl (p18_16 W h l d false) Ha2_z2)
    | true =>
      rw [hp] at hc34
      have c5 : (!true) = false := rfl
      cases hl : clB h.text with
      | false =>
        rw [hl] at hc35
        rw [if_pos (.inr (.inr (.inr rfl)))]
        exact pure_of_mut rfl (mut_of_sfun mixedz call18h rfl (p18_17 W h l d true false) Ha2_z2)
      | true =>
        rw [hl] at hc35
        rw [if_neg (by rintro (e | e | e | e); exact k0 e; exact k6 e; cases e; cases e)]
        rcases loop18 W h l d hok hd (by omega) hp ih l.length 0 (by omega) (by omega) with ⟨e, hlp⟩ | ⟨e, hlp⟩
        · rw [List.drop_zero] at e
          rw [e]
          exact pure_of_mut rfl (mut_of_sfun mixedz call18h rfl (p18_18 W h l d true true) Ha2_z2)
        · rw [List.drop_zero] at hlp
          exact pure_of_mut rfl (mut_of_sfun mixedz call18h rfl (q18_18 W h l d (chkL h.kind h.names l d 0) true true) Ha2_z2)
theorem check5 (v : JV) (hok : okV v) : Pure Tryz.prog W 5 [encV v] (iA (chkV v 0)) := by
  have hc := mut_of_pure (clo2 v _) (check18 W _ v 0 (Nat.lt_succ_self _) hok (by omega) (by omega))
  obtain ⟨h, l⟩ := v
  exact pure_of_mut rfl (mut_of_sfun mixedz call5h rfl (p5_0 W h l (chkV (.mk h l) 0)) Ha2_z2)
theorem simpleL_at {l : List JV} {i : Nat} {x : JV} (hx : l[i]? = some x) : simpleL (l.drop i) = (simpleV x && simpleL (l.drop (i + 1))) := by rw [drop_get hx, simpleL]
theorem simple13 : ∀ (n : Nat) (v : JV), sizeV v < n → okV v → Pure Tryz.prog W 13 [encV v] (bA (simpleV v))
  | 0, _, h, _ => by omega
  | n + 1, .mk h l, hs, hok => by
    have hl2 := okV_ln hok
    simp only [JV.items] at hl2
    rw [simpleV]
    by_cases k5 : h.kind = 5
    · have c5 := decide_eq_true k5
      rw [c5]
      exact pure_of_mut rfl (mut_of_sfun mixedz call13h rfl (p13_0 W h l) Ha2_z2)
    have c5 := decide_eq_false k5
    rw [c5, show (!false && simpleL l) = simpleL l by simp]
    have loop : ∀ (j i : Nat), l.length - i = j → i ≤ l.length → (simpleL (l.drop i) = true ∧ LoopC Tryz.prog W [] (nslots Tryz.prog 13) (loopOf Tryz.prog 13 0) (S13 h l i) (.exit 0) E0) ∨ (simpleL (l.drop i) = false ∧ LoopC Tryz.prog W [] (nslots Tryz.prog 13) (loopOf Tryz.prog 13 0) (S13 h l i) .ret (R2b false)) := by
      intro j
      induction j with
      | zero =>
        intro i hj hi
        have e : decide ((i : Int) < ((encVs l).length : Int)) = false := by rw [encVs_len]; exact decide_eq_false (by omega)
        exact .inl ⟨by rw [List.drop_of_length_le (by omega), simpleL], loop_last (by simp) (body_of_sbodyK mixedz (b13_2 W h l i) Ha2_z2 [] [] Ha2_z1)⟩
      | succ j ihj =>
        intro i hj hi
        obtain ⟨x, hx⟩ := getOf (l := l) (i := i) (by omega)
        have e : decide ((i : Int) < ((encVs l).length : Int)) = true := by rw [encVs_len]; exact decide_eq_true (by omega)
        have hcx := mut_of_pure (clo1 x) (simple13 n x (by have := sizeV_item (v := .mk h l) hx; omega) (okV_item hok hx))
        rw [simpleL_at hx]
        obtain ⟨hx1, k⟩ := x
        have hget : (encVs l)[((i : Int)).toNat]? = some (encV (.mk hx1 k)) := by rw [Int.toNat_natCast]; exact encVs_get hx
        have hws : IntKind.i64.wrap ((i : Int) + 1) = ((i + 1 : Nat) : Int) := wrap_succ (by omega)
        cases hsx : simpleV (.mk hx1 k) with
        | false =>
          rw [hsx] at hcx
          have c1 : (!false) = true := rfl
          exact .inr ⟨rfl, loop_last (by simp) (body_of_sbodyK mixedz (b13_0 W h hx1 l k false i) Ha2_z2 [] [] Ha2_z1)⟩
        | true =>
          rw [hsx] at hcx
          have c1 : (!true) = false := rfl
          have hb := body_of_sbodyK mixedz (b13_1 W h hx1 l k true i) Ha2_z2 [] [] (σ3 := S13 h l (i + 1)) Ha2_z1
          rw [Bool.true_and]
          rcases ihj (i + 1) (by omega) (by omega) with ⟨g1, g2⟩ | ⟨g1, g2⟩
          · exact .inl ⟨g1, loop_next hb g2⟩
          · exact .inr ⟨g1, loop_next hb g2⟩
    rcases loop l.length 0 (by omega) (by omega) with ⟨g, hlp⟩ | ⟨g, hlp⟩
    · rw [show simpleL l = true by simpa using g]
      exact pure_of_mut rfl (mut_of_sfun mixedz call13h rfl (p13_1 W h l) Ha2_z2)
    · rw [show simpleL l = false by simpa using g]
      exact pure_of_mut rfl (mut_of_sfun mixedz call13h rfl (q13_1 W h l) Ha2_z2)
theorem members22 (v : JV) : Pure Tryz.prog W 22 [encV v] (iA v.mem) := by
  obtain ⟨h, l⟩ := v
  by_cases e : h.names.length < l.length
  · have c : decide (((h.names.map AV.str).length : Int) < ((encVs l).length : Int)) = true := by rw [encVs_len, List.length_map]; exact decide_eq_true (by omega)
    have hM := mut_of_sfun mixedz call22h rfl (p22_0 W h l) Ha2_z2
    rw [show (JV.mk h l).mem = (h.names.map AV.str).length by rw [List.length_map, mem_mk, if_neg (by omega)]]
    exact pure_of_mut rfl hM
  · have c : decide (((h.names.map AV.str).length : Int) < ((encVs l).length : Int)) = false := by rw [encVs_len, List.length_map]; exact decide_eq_false (by omega)
    have hM := mut_of_sfun mixedz call22h rfl (p22_1 W h l) Ha2_z2
    rw [show (JV.mk h l).mem = (encVs l).length by rw [encVs_len, mem_mk]; split <;> omega]
    exact pure_of_mut rfl hM
theorem leavesM_at {ns : List (List UInt8)} {l : List JV} {i : Nat} {s : List UInt8} {x : JV} (hs : ns[i]? = some s) (hx : l[i]? = some x) : leavesM (ns.drop i) (l.drop i) = leavesV x + leavesM (ns.drop (i + 1)) (l.drop (i + 1)) := by
  rw [drop_get hs, drop_get hx, leavesM]
theorem leaves16 : ∀ (n : Nat) (v : JV), sizeV v < n → cntV v ≤ 2 ^ 30 → Pure Tryz.prog W 16 [encV v] (iA (leavesV v))
  | 0, _, h, _ => by omega
  | n + 1, .mk h l, hs, hc => by
    have hln := cntV_len (.mk h l)
    simp only [JV.items, JV.names, JV.hd] at hln
    have hlv := leaves_cnt (.mk h l)
    rw [leavesV] at hlv ⊢
    by_cases k6 : h.kind = 6
    case neg =>
      have c6 : (!decide (h.kind = 6)) = true := by rw [decide_eq_false k6]; rfl
      rw [if_pos k6]
      exact pure_of_mut rfl (mut_of_sfun mixedz call16h rfl (p16_0 W h l) Ha2_z2)
    have c6 : (!decide (h.kind = 6)) = false := by rw [decide_eq_true k6]; rfl
    rw [if_neg (by simpa using k6)] at hlv ⊢
    have hcm := mut_of_pure (by rfl) (members22 W (.mk h l))
    have hmn := JV.mem_names (.mk h l)
    have hml := JV.mem_items (.mk h l)
    simp only [JV.items, JV.names, JV.hd] at hmn hml
    have hmin : (JV.mk h l).mem = l.length ∨ (JV.mk h l).mem = h.names.length := by rw [mem_mk]; split <;> omega
    generalize hmm : (JV.mk h l).mem = m at hcm hmn hml hmin
    have loop : ∀ (j i n1 : Nat), m - i = j → i ≤ m → n1 + leavesM (h.names.drop i) (l.drop i) ≤ 2 ^ 30 → LoopC Tryz.prog W [] (nslots Tryz.prog 16) (loopOf Tryz.prog 16 0) (S16 h l n1 i) (.exit 0) (E16 ((n1 + leavesM (h.names.drop i) (l.drop i) : Nat) : Int)) := by
      intro j
      induction j with
      | zero =>
        intro i n1 hj hi hb
        have e : decide ((i : Int) < ((m : Nat) : Int)) = false := decide_eq_false (by omega)
        rw [leavesM_nil (ns := h.names.drop i) (l := l.drop i) (by
          rcases hmin with q | q
          · right; exact List.drop_of_length_le (by omega)
          · left; exact List.drop_of_length_le (by omega)), Nat.add_zero]
        exact loop_last (by simp) (body_of_sbodyK mixedz (b16_1 W h l n1 m i) Ha2_z2 [] [] Ha2_z1)
      | succ j ihj =>
        intro i n1 hj hi hb
        obtain ⟨x, hx⟩ := getOf (l := l) (i := i) (by omega)
        obtain ⟨s, hs1⟩ := getOf (l := h.names) (i := i) (by omega)
        have e : decide ((i : Int) < ((m : Nat) : Int)) = true := decide_eq_true (by omega)
        have hcx := mut_of_pure (clo1 x) (leaves16 n x (by have := sizeV_item (v := .mk h l) hx; omega) (by have := cntV_item (v := .mk h l) hx; omega))
        rw [leavesM_at hs1 hx] at hb ⊢
        obtain ⟨hx1, k⟩ := x
        have hget : (encVs l)[((i : Int)).toNat]? = some (encV (.mk hx1 k)) := by rw [Int.toNat_natCast]; exact encVs_get hx
        have hws : IntKind.i64.wrap ((i : Int) + 1) = ((i + 1 : Nat) : Int) := wrap_succ (by omega)
        have hwn : IntKind.i64.wrap ((n1 : Int) + ((leavesV (.mk hx1 k) : Nat) : Int)) = ((n1 + leavesV (.mk hx1 k) : Nat) : Int) := by rw [IntWalk.i64_in _ (by omega)]; omega
        have := ihj (i + 1) (n1 + leavesV (.mk hx1 k)) (by omega) (by omega) (by omega)
        rw [Nat.add_assoc] at this
        exact loop_next (body_of_sbodyK mixedz (b16_0 W h hx1 l k (leavesV (.mk hx1 k) : Nat) n1 m i) Ha2_z2 [] [] Ha2_z1) this
    have hlp := loop m 0 0 (by omega) (by omega) (by simp only [List.drop_zero]; omega)
    simp only [List.drop_zero, Nat.zero_add] at hlp
    exact pure_of_mut rfl (mut_of_sfun mixedz call16h rfl (p16_1 W h l (leavesM h.names l : Nat)) Ha2_z2)
def getAV (v : JV) (p : List (List UInt8)) : AV := match getV v p with | some x => .tup [encV x, bA true] | none => .tup [encV (.mk ⟨0, 0, [], []⟩ []), bA false]
theorem getAV_some {v x : JV} {p : List (List UInt8)} (h : getV v p = some x) : getAV v p = .tup [encV x, bA true] := by unfold getAV; rw [h]
theorem getAV_none {v : JV} {p : List (List UInt8)} (h : getV v p = none) : getAV v p = .tup [encV (.mk ⟨0, 0, [], []⟩ []), bA false] := by unfold getAV; rw [h]
theorem get15 : ∀ (p : List (List UInt8)) (v : JV), okV v → p.length ≤ 2 ^ 40 → Pure Tryz.prog W 15 [encV v, .sl 1 (p.map AV.str) []] (getAV v p)
  | [], .mk h l, _, _ => by
    have c : decide (((List.map AV.str ([] : List (List UInt8))).length : Int) = 0) = true := rfl
    rw [getAV_some (x := .mk h l) (by rw [getV])]
    exact pure_of_mut (by simp [AV.clo, cloL, encV_clo, bA]) (mut_of_sfun mixedz call15h rfl (p15_0 W h l []) Ha2_z2)
  | s :: q, .mk h l, hok, hpl => by
    have hnm := okV_nm hok
    simp only [JV.names, JV.hd] at hnm
    have c : decide (((List.map AV.str (s :: q)).length : Int) = 0) = false := by rw [List.length_map]; exact decide_eq_false (by simp only [List.length_cons]; omega)
    have hgs : (List.map AV.str (s :: q))[0]? = some (AV.str s) := rfl
    have hc33 := mut_of_pure (by rfl) (place72 W h l s hnm)
    by_cases hn : (JV.mk h l).child s < 0
    · have c2 := decide_eq_true hn
      rw [getAV_none (getV_none hn)]
      refine pure_leR ?_ (pure_of_mut rfl (mut_of_sfun mixedz call15h rfl (p15_1 W h l ((JV.mk h l).child s) s (s :: q)) Ha2_z2))
      exact .tup (.cons (.agg (.cons (.refl _) (.cons (.refl _) (.cons (.refl _) (.cons (.nil 1) (.cons (.nil 5) .nil)))))) (.cons (.refl _) .nil))
    · have c2 := decide_eq_false hn
      have h0 : 0 ≤ (JV.mk h l).child s := by omega
      obtain ⟨x, hx⟩ := child_get h0
      have hxl : l[((JV.mk h l).child s).toNat]? = some x := hx
      have ihx := get15 q x (okV_item hok hx) (by simp only [List.length_cons] at hpl; omega)
      have hst : getV (.mk h l) (s :: q) = getV x q := getV_step h0 hx
      have hga : getAV (.mk h l) (s :: q) = getAV x q := by unfold getAV; rw [hst]
      rw [hga]
      obtain ⟨hx1, k⟩ := x
      have hget : (encVs l)[((JV.mk h l).child s).toNat]? = some (encV (.mk hx1 k)) := encVs_get hxl
      have hdl : defLen (AV.sl 1 (List.map AV.str (s :: q)) []) = (s :: q).length := by simp [defLen]
      have e1 : List.drop 1 (List.take ((defLen (AV.sl 1 (List.map AV.str (s :: q)) []) : Nat) : Int).toNat (List.map AV.str (s :: q) ++ [])) = q.map AV.str := by
        rw [hdl, Int.toNat_natCast, List.append_nil, List.take_of_length_le (by simp)]; rfl
      have hr : (1 : Int) ≤ ((defLen (AV.sl 1 (List.map AV.str (s :: q)) []) : Nat) : Int) ∧ ((defLen (AV.sl 1 (List.map AV.str (s :: q)) []) : Nat) : Int) ≤ ((List.map AV.str (s :: q)).length : Int) + 0 := by
        rw [hdl, List.length_map]; simp only [List.length_cons]; omega
      obtain ⟨hr1, hr2⟩ := hr
      have go : ∀ (hy : JH) (y : List JV) (b : Bool), getAV (.mk hx1 k) q = .tup [encV (.mk hy y), bA b] → Pure Tryz.prog W 15 [encV (.mk h l), .sl 1 ((s :: q).map AV.str) []] (.tup [encV (.mk hy y), bA b]) := by
        intro hy y b e
        have hc15 : MutC Tryz.prog W 15 [encV (.mk hx1 k), AV.sl 1 (List.drop 1 (List.take ((defLen (AV.sl 1 (List.map AV.str (s :: q)) []) : Nat) : Int).toNat (List.map AV.str (s :: q) ++ []))) (List.drop ((defLen (AV.sl 1 (List.map AV.str (s :: q)) []) : Nat) : Int).toNat (List.map AV.str (s :: q) ++ []))] [] (.ret (.tup [encV (.mk hy y), bA b]) []) := by
          rw [e1, ← e]
          exact mut_le (.cons (.refl _) (.cons (.rest _ _ _) .nil)) (mut_of_pure (by simp [AV.clo, cloL, encV_clo]) ihx)
        exact pure_of_mut (by simp [AV.clo, cloL, encV_clo, bA]) (mut_of_sfun mixedz call15h rfl (p15_2 W h hx1 hy l k y ((JV.mk h l).child s) b s (s :: q)) Ha2_z2)
      cases hg : getV (.mk hx1 k) q with
      | none => rw [getAV_none hg]; exact go _ _ _ (getAV_none hg)
      | some z => obtain ⟨hz, zl⟩ := z; rw [getAV_some hg]; exact go _ _ _ (getAV_some hg)
end
end Go.Ac

