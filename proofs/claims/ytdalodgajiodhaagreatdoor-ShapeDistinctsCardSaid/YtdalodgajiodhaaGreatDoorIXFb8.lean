/- What is proved: contracts of functions of this translation, walked; their plain meaning. No condition beyond those that each theorem names. -/
import Derived.Test.YtdalodgajiodhaaGreatDoorIXFb7
set_option linter.all false
namespace Go.Ac
open Go Go.Proofs
set_option maxRecDepth 10000
set_option maxHeartbeats 1000000
theorem Fb8_z1 {kp f ph σ σ'} (h : MatchK kp f ph σ σ' := by exact ⟨by rfl, (by simp only [S123, E123, S124, E124, S129, S128, E128, Rv, H124, tOK, List.map_cons, List.map_nil, and_true] <;> exact zt), (by simp only [S123, E123, S124, E124, S129, S128, E128, Rv, H124, hOK, List.map_cons, List.map_nil, and_true] <;> exact zh), (by simp only [S123, E123, S124, E124, S129, S128, E128, Rv, H124, liveT, List.map_cons, List.map_nil, and_true] <;> exact zv), (by simp only [S123, E123, S124, E124, S129, S128, E128, Rv, H124, liveH, List.map_cons, List.map_nil, and_true] <;> exact zv)⟩) : MatchK kp f ph σ σ' := h
theorem Fb8_z2 {cs} (h : Holds cs := by simp only [Holds, and_true] <;> and_intros <;> first | exact zd) : Holds cs := h
theorem Fb8_z3 {cs} (h : Holds cs := by simp only [Holds, and_true] <;> and_intros <;> first | exact zd | exact Fb8_z1) : Holds cs := h
def S123 (a b : List JV) (i : Nat) : AS := ⟨[(0, .sl 5 (encVs a) []), (1, .sl 5 (encVs b) []), (2, .val (.func (.func 36) #[] #[])), (11, .sl 5 (encVs a) []), (12, iA a.length), (13, iA i)], []⟩
def E123 (a b : List JV) : AS := ⟨[(0, .sl 5 (encVs a) []), (1, .sl 5 (encVs b) [])], []⟩
def H124 (h : JH) (l : List JV) (h2 : JH) (l2 : List JV) : List (Nat × GE) := [(100000, .box (encV (.mk h l)) .own), (100001, .box (encV (.mk h2 l2)) .own)]
def S124 (h : JH) (l : List JV) (h2 : JH) (l2 : List JV) (n m k i : Nat) : AS := ⟨[(2, .gp 100000 0), (3, .gp 100001 0), (5, iA n), (6, iA m), (26, iA k), (27, iA i)], H124 h l h2 l2⟩
def S129 (h : JH) (l : List JV) (h2 : JH) (l2 : List JV) (n m i : Nat) : AS := ⟨[(2, .gp 100000 0), (3, .gp 100001 0), (5, iA n), (6, iA m), (7, iA i)], H124 h l h2 l2⟩
def E124 (n m : Nat) : AS := ⟨[(5, iA n), (6, iA m)], []⟩
def S128 (a b : List UInt8) (i : Nat) : AS := ⟨[(0, .str a), (1, .str b), (5, iA i)], []⟩
def E128 (a b : List UInt8) : AS := ⟨[(0, .str a), (1, .str b)], []⟩
def Rv (k : Nat) (v : Int) : AS := ⟨[(k, iA v)], []⟩
theorem p119_3 (W : World) (a b : Int) : sF W {} 63 [iA a, iA b] [] 100000 [aE 2, bf, bf, bt, ee] [] = .ok (.ret (iA (-1)) [], [ee], [decide (a < b) = true, (!decide (b = b)) = false, (!decide (a = a)) = false]) := by kernel_rfl
theorem p119_4 (W : World) (a b : Int) : sF W {} 63 [iA a, iA b] [] 100000 [aE 2, bf, bf, bf, bt, ee] [] = .ok (.ret (iA 1) [], [ee], [decide (b < a) = true, decide (a < b) = false, (!decide (b = b)) = false, (!decide (a = a)) = false]) := by kernel_rfl
theorem p119_5 (W : World) (a b : Int) : sF W {} 63 [iA a, iA b] [] 100000 [aE 2, bf, bf, bf, bf, ee] [] = .ok (.ret (iA 0) [], [ee], [decide (b < a) = false, decide (a < b) = false, (!decide (b = b)) = false, (!decide (a = a)) = false]) := by kernel_rfl
theorem p121_3 (W : World) (a b : Int) : sF W {} 65 [iA a, iA b] [] 100000 [aE 2, bf, bf, bt, ee] [] = .ok (.ret (iA (-1)) [], [ee], [decide (a < b) = true, (!decide (b = b)) = false, (!decide (a = a)) = false]) := by kernel_rfl
theorem p121_4 (W : World) (a b : Int) : sF W {} 65 [iA a, iA b] [] 100000 [aE 2, bf, bf, bf, bt, ee] [] = .ok (.ret (iA 1) [], [ee], [decide (b < a) = true, decide (a < b) = false, (!decide (b = b)) = false, (!decide (a = a)) = false]) := by kernel_rfl
theorem p121_5 (W : World) (a b : Int) : sF W {} 65 [iA a, iA b] [] 100000 [aE 2, bf, bf, bf, bf, ee] [] = .ok (.ret (iA 0) [], [ee], [decide (b < a) = false, decide (a < b) = false, (!decide (b = b)) = false, (!decide (a = a)) = false]) := by kernel_rfl
theorem p126_0 (W : World) (a b : Int) : sF W {} 70 [iA a, iA b] [] 100000 [bt, ee] [] = .ok (.ret (iA (-1)) [], [ee], [decide (a < b) = true]) := by kernel_rfl
theorem p126_1 (W : World) (a b : Int) : sF W {} 70 [iA a, iA b] [] 100000 [bf, bt, ee] [] = .ok (.ret (iA 1) [], [ee], [decide (b < a) = true, decide (a < b) = false]) := by kernel_rfl
theorem p126_2 (W : World) (a b : Int) : sF W {} 70 [iA a, iA b] [] 100000 [bf, bf, ee] [] = .ok (.ret (iA 0) [], [ee], [decide (b < a) = false, decide (a < b) = false]) := by kernel_rfl
theorem p122_3 (W : World) (a b : List UInt8) : sF W {} 66 [.str a, .str b] [] 100000 [aE 2, bf, bf, bt, ee] [] = .ok (.ret (iA (-1)) [], [ee], [Op.bytesLess a b = true, (!decide (b = b)) = false, (!decide (a = a)) = false]) := by kernel_rfl
theorem p122_4 (W : World) (a b : List UInt8) : sF W {} 66 [.str a, .str b] [] 100000 [aE 2, bf, bf, bf, bt, ee] [] = .ok (.ret (iA 1) [], [ee], [(!(Op.bytesLess a b || decide (a = b))) = true, Op.bytesLess a b = false, (!decide (b = b)) = false, (!decide (a = a)) = false]) := by kernel_rfl
theorem p122_5 (W : World) (a b : List UInt8) : sF W {} 66 [.str a, .str b] [] 100000 [aE 2, bf, bf, bf, bf, ee] [] = .ok (.ret (iA 0) [], [ee], [(!(Op.bytesLess a b || decide (a = b))) = false, Op.bytesLess a b = false, (!decide (b = b)) = false, (!decide (a = a)) = false]) := by kernel_rfl
theorem p120_0 (W : World) (h : JH) (l : List JV) : sF W {} 64 [eV h l] [] 100000 [bt, ee] [] = .ok (.ret (iA 0) [], [ee], [decide (h.kind = 0) = true]) := by kernel_rfl
theorem p120_1 (W : World) (h : JH) (l : List JV) : sF W {} 64 [eV h l] [] 100000 [bf, bt, ee] [] = .ok (.ret (iA 1) [], [ee], [decide (h.kind = 3) = true, decide (h.kind = 0) = false]) := by kernel_rfl
theorem p120_2 (W : World) (h : JH) (l : List JV) : sF W {} 64 [eV h l] [] 100000 [bf, bf, bt, ee] [] = .ok (.ret (iA 2) [], [ee], [decide (h.kind = 4) = true, decide (h.kind = 3) = false, decide (h.kind = 0) = false]) := by kernel_rfl
theorem p120_3 (W : World) (h : JH) (l : List JV) : sF W {} 64 [eV h l] [] 100000 [bf, bf, bf, bt, ee] [] = .ok (.ret (iA 3) [], [ee], [decide (h.kind = 6) = true, decide (h.kind = 4) = false, decide (h.kind = 3) = false, decide (h.kind = 0) = false]) := by kernel_rfl
theorem p120_4 (W : World) (h : JH) (l : List JV) : sF W {} 64 [eV h l] [] 100000 [bf, bf, bf, bf, bt, ee] [] = .ok (.ret (iA 4) [], [ee], [decide (h.kind = 5) = true, decide (h.kind = 6) = false, decide (h.kind = 4) = false, decide (h.kind = 3) = false, decide (h.kind = 0) = false]) := by kernel_rfl
theorem p120_5 (W : World) (h : JH) (l : List JV) : sF W {} 64 [eV h l] [] 100000 [bf, bf, bf, bf, bf, bt, ee] [] = .ok (.ret (iA 5) [], [ee], [decide (h.kind = 1) = true, decide (h.kind = 5) = false, decide (h.kind = 6) = false, decide (h.kind = 4) = false, decide (h.kind = 3) = false, decide (h.kind = 0) = false]) := by kernel_rfl
theorem p120_6 (W : World) (h : JH) (l : List JV) : sF W {} 64 [eV h l] [] 100000 [bf, bf, bf, bf, bf, bf, bt, ee] [] = .ok (.ret (iA 6) [], [ee], [decide (h.kind = 2) = true, decide (h.kind = 1) = false, decide (h.kind = 5) = false, decide (h.kind = 6) = false, decide (h.kind = 4) = false, decide (h.kind = 3) = false, decide (h.kind = 0) = false]) := by kernel_rfl
theorem p120_7 (W : World) (h : JH) (l : List JV) : sF W {} 64 [eV h l] [] 100000 [bf, bf, bf, bf, bf, bf, bf, ee] [] = .ok (.ret (iA (-1)) [], [ee], [decide (h.kind = 2) = false, decide (h.kind = 1) = false, decide (h.kind = 5) = false, decide (h.kind = 6) = false, decide (h.kind = 4) = false, decide (h.kind = 3) = false, decide (h.kind = 0) = false]) := by kernel_rfl
theorem p127_0 (W : World) (h : JH) (l : List JV) : sF W {} 71 [eV h l] [] 100000 [bt, ee] [] = .ok (.ret (iA 0) [], [ee], [decide (h.kind = 0) = true]) := by kernel_rfl
theorem p127_1 (W : World) (h : JH) (l : List JV) : sF W {} 71 [eV h l] [] 100000 [bf, bt, ee] [] = .ok (.ret (iA 1) [], [ee], [decide (h.kind = 3) = true, decide (h.kind = 0) = false]) := by kernel_rfl
theorem p127_2 (W : World) (h : JH) (l : List JV) : sF W {} 71 [eV h l] [] 100000 [bf, bf, bt, ee] [] = .ok (.ret (iA 2) [], [ee], [decide (h.kind = 4) = true, decide (h.kind = 3) = false, decide (h.kind = 0) = false]) := by kernel_rfl
theorem p127_3 (W : World) (h : JH) (l : List JV) : sF W {} 71 [eV h l] [] 100000 [bf, bf, bf, bt, ee] [] = .ok (.ret (iA 3) [], [ee], [decide (h.kind = 6) = true, decide (h.kind = 4) = false, decide (h.kind = 3) = false, decide (h.kind = 0) = false]) := by kernel_rfl
theorem p127_4 (W : World) (h : JH) (l : List JV) : sF W {} 71 [eV h l] [] 100000 [bf, bf, bf, bf, bt, ee] [] = .ok (.ret (iA 4) [], [ee], [decide (h.kind = 5) = true, decide (h.kind = 6) = false, decide (h.kind = 4) = false, decide (h.kind = 3) = false, decide (h.kind = 0) = false]) := by kernel_rfl
theorem p127_5 (W : World) (h : JH) (l : List JV) : sF W {} 71 [eV h l] [] 100000 [bf, bf, bf, bf, bf, bt, ee] [] = .ok (.ret (iA 5) [], [ee], [decide (h.kind = 1) = true, decide (h.kind = 5) = false, decide (h.kind = 6) = false, decide (h.kind = 4) = false, decide (h.kind = 3) = false, decide (h.kind = 0) = false]) := by kernel_rfl
theorem p127_6 (W : World) (h : JH) (l : List JV) : sF W {} 71 [eV h l] [] 100000 [bf, bf, bf, bf, bf, bf, bt, ee] [] = .ok (.ret (iA 6) [], [ee], [decide (h.kind = 2) = true, decide (h.kind = 1) = false, decide (h.kind = 5) = false, decide (h.kind = 6) = false, decide (h.kind = 4) = false, decide (h.kind = 3) = false, decide (h.kind = 0) = false]) := by kernel_rfl
theorem p127_7 (W : World) (h : JH) (l : List JV) : sF W {} 71 [eV h l] [] 100000 [bf, bf, bf, bf, bf, bf, bf, ee] [] = .ok (.ret (iA (-1)) [], [ee], [decide (h.kind = 2) = false, decide (h.kind = 1) = false, decide (h.kind = 5) = false, decide (h.kind = 6) = false, decide (h.kind = 4) = false, decide (h.kind = 3) = false, decide (h.kind = 0) = false]) := by kernel_rfl
theorem p158_0 (W : World) (h : JH) (l : List JV) : sF W {} 94 [eV h l] [] 100000 [bt, bt, bt, bt, bt, bt, bt, bt, bt, ee] [] = .ok (.ret (iA (↑(List.map AV.str h.names).length : Int)) [], [ee], (decide ((↑(List.map AV.str h.names).length : Int) < (↑(encVs l).length : Int)) = true) :: (d2 (decide (h.kind = 6) = true) (d6 (decide (h.kind = 6) = true) []))) := by kernel_rfl
theorem p158_1 (W : World) (h : JH) (l : List JV) : sF W {} 94 [eV h l] [] 100000 [bt, bt, bt, bt, bt, bt, bt, bt, bf, ee] [] = .ok (.ret (iA (↑(encVs l).length : Int)) [], [ee], (decide ((↑(List.map AV.str h.names).length : Int) < (↑(encVs l).length : Int)) = false) :: (d2 (decide (h.kind = 6) = true) (d6 (decide (h.kind = 6) = true) []))) := by kernel_rfl
theorem p158_2 (W : World) (h : JH) (l : List JV) : sF W {} 94 [eV h l] [] 100000 [bf, bf, bf, bf, bf, bf, bf, bf, ee] [] = .ok (.ret (iA (↑(encVs l).length : Int)) [], [aE 9999999], d2 (decide (h.kind = 6) = false) (d6 (decide (h.kind = 6) = false) [])) := by kernel_rfl
theorem p81_0 (W : World) (h : JH) (l : List JV) (h2 : JH) (l2 : List JV) (c : Int) : sF W { lp := true, tl := [64, 63, 65, 66, 67, 68] } 36 [eV h l, eV h2 l2] [] 100000 [ee, cR (iA (rankV h.kind)) [], ee, cR (iA (rankV h2.kind)) [], ee, cR (iA c) [], bt, ee] [] = .ok (.ret (iA c) [], [ee], [(!decide (c = 0)) = true, MZ W 63 [iA (rankV h.kind), iA (rankV h2.kind)] [] (.ret (iA c) []), MZ W 64 [eV h2 l2] [] (.ret (iA (rankV h2.kind)) []), MZ W 64 [eV h l] [] (.ret (iA (rankV h.kind)) [])]) := by kernel_rfl
theorem p81_1 (W : World) (h : JH) (l : List JV) (h2 : JH) (l2 : List JV) (c d : Int) : sF W { lp := true, tl := [64, 63, 65, 66, 67, 68] } 36 [eV h l, eV h2 l2] [] 100000 [ee, cR (iA (rankV h.kind)) [], ee, cR (iA (rankV h2.kind)) [], ee, cR (iA c) [], bf, bt, ee, cR (iA d) [], ee] [] = .ok (.ret (iA d) [], [ee], [MZ W 65 [iA h.int, iA h2.int] [] (.ret (iA d) []), decide (h.kind = 3) = true, (!decide (c = 0)) = false, MZ W 63 [iA (rankV h.kind), iA (rankV h2.kind)] [] (.ret (iA c) []), MZ W 64 [eV h2 l2] [] (.ret (iA (rankV h2.kind)) []), MZ W 64 [eV h l] [] (.ret (iA (rankV h.kind)) [])]) := by kernel_rfl
theorem p81_2 (W : World) (h : JH) (l : List JV) (h2 : JH) (l2 : List JV) (c d : Int) : sF W { lp := true, tl := [64, 63, 65, 66, 67, 68] } 36 [eV h l, eV h2 l2] [] 100000 [ee, cR (iA (rankV h.kind)) [], ee, cR (iA (rankV h2.kind)) [], ee, cR (iA c) [], bf, bf, bt, ee, cR (iA d) [], ee] [] = .ok (.ret (iA d) [], [ee], [MZ W 66 [.str h.3, .str h2.3] [] (.ret (iA d) []), decide (h.kind = 4) = true, decide (h.kind = 3) = false, (!decide (c = 0)) = false, MZ W 63 [iA (rankV h.kind), iA (rankV h2.kind)] [] (.ret (iA c) []), MZ W 64 [eV h2 l2] [] (.ret (iA (rankV h2.kind)) []), MZ W 64 [eV h l] [] (.ret (iA (rankV h.kind)) [])]) := by kernel_rfl
theorem p81_3 (W : World) (h : JH) (l : List JV) (h2 : JH) (l2 : List JV) (c d : Int) : sF W { lp := true, tl := [64, 63, 65, 66, 67, 68] } 36 [eV h l, eV h2 l2] [] 100000 [ee, cR (iA (rankV h.kind)) [], ee, cR (iA (rankV h2.kind)) [], ee, cR (iA c) [], bf, bf, bf, bt, ee, cR (iA d) [], ee] [] = .ok (.ret (iA d) [], [ee], [MZ W 67 [sL 5 (encVs l), sL 5 (encVs l2), .val (Value.func (Fn.func 36) #[] #[])] [] (.ret (iA d) []), decide (h.kind = 5) = true, decide (h.kind = 4) = false, decide (h.kind = 3) = false, (!decide (c = 0)) = false, MZ W 63 [iA (rankV h.kind), iA (rankV h2.kind)] [] (.ret (iA c) []), MZ W 64 [eV h2 l2] [] (.ret (iA (rankV h2.kind)) []), MZ W 64 [eV h l] [] (.ret (iA (rankV h.kind)) [])]) := by kernel_rfl
theorem p81_4 (W : World) (h : JH) (l : List JV) (h2 : JH) (l2 : List JV) (c d : Int) : sF W { lp := true, tl := [64, 63, 65, 66, 67, 68] } 36 [eV h l, eV h2 l2] [] 100000 [ee, cR (iA (rankV h.kind)) [], ee, cR (iA (rankV h2.kind)) [], ee, cR (iA c) [], bf, bf, bf, bf, bt, ee, cR (iA d) [], ee] [] = .ok (.ret (iA d) [], [ee], [MZ W 68 [eV h l, eV h2 l2] [] (.ret (iA d) []), decide (h.kind = 6) = true, decide (h.kind = 5) = false, decide (h.kind = 4) = false, decide (h.kind = 3) = false, (!decide (c = 0)) = false, MZ W 63 [iA (rankV h.kind), iA (rankV h2.kind)] [] (.ret (iA c) []), MZ W 64 [eV h2 l2] [] (.ret (iA (rankV h2.kind)) []), MZ W 64 [eV h l] [] (.ret (iA (rankV h.kind)) [])]) := by kernel_rfl
theorem p81_5 (W : World) (h : JH) (l : List JV) (h2 : JH) (l2 : List JV) (c : Int) : sF W { lp := true, tl := [64, 63, 65, 66, 67, 68] } 36 [eV h l, eV h2 l2] [] 100000 [ee, cR (iA (rankV h.kind)) [], ee, cR (iA (rankV h2.kind)) [], ee, cR (iA c) [], bf, bf, bf, bf, bf, ee] [] = .ok (.ret (iA 0) [], [ee], [decide (h.kind = 6) = false, decide (h.kind = 5) = false, decide (h.kind = 4) = false, decide (h.kind = 3) = false, (!decide (c = 0)) = false, MZ W 63 [iA (rankV h.kind), iA (rankV h2.kind)] [] (.ret (iA c) []), MZ W 64 [eV h2 l2] [] (.ret (iA (rankV h2.kind)) []), MZ W 64 [eV h l] [] (.ret (iA (rankV h.kind)) [])]) := by kernel_rfl
theorem p83_0 (W : World) (h : JH) (l : List JV) (h2 : JH) (l2 : List JV) (c : Int) : sF W { lp := true, tl := [70, 71, 72, 73] } 38 [eV h l, eV h2 l2] [] 100000 [ee, cR (iA (rankV h.kind)) [], ee, cR (iA (rankV h2.kind)) [], ee, cR (iA c) [], bt, ee] [] = .ok (.ret (iA c) [], [ee], [(!decide (c = 0)) = true, MZ W 70 [iA (rankV h.kind), iA (rankV h2.kind)] [] (.ret (iA c) []), MZ W 71 [eV h2 l2] [] (.ret (iA (rankV h2.kind)) []), MZ W 71 [eV h l] [] (.ret (iA (rankV h.kind)) [])]) := by kernel_rfl
theorem p83_1 (W : World) (h : JH) (l : List JV) (h2 : JH) (l2 : List JV) (c d : Int) : sF W { lp := true, tl := [70, 71, 72, 73] } 38 [eV h l, eV h2 l2] [] 100000 [ee, cR (iA (rankV h.kind)) [], ee, cR (iA (rankV h2.kind)) [], ee, cR (iA c) [], bf, bt, ee, cR (iA d) [], ee] [] = .ok (.ret (iA d) [], [ee], [MZ W 70 [iA h.int, iA h2.int] [] (.ret (iA d) []), decide (h.kind = 3) = true, (!decide (c = 0)) = false, MZ W 70 [iA (rankV h.kind), iA (rankV h2.kind)] [] (.ret (iA c) []), MZ W 71 [eV h2 l2] [] (.ret (iA (rankV h2.kind)) []), MZ W 71 [eV h l] [] (.ret (iA (rankV h.kind)) [])]) := by kernel_rfl
theorem p83_2 (W : World) (h : JH) (l : List JV) (h2 : JH) (l2 : List JV) (c d : Int) : sF W { lp := true, tl := [70, 71, 72, 73] } 38 [eV h l, eV h2 l2] [] 100000 [ee, cR (iA (rankV h.kind)) [], ee, cR (iA (rankV h2.kind)) [], ee, cR (iA c) [], bf, bf, bt, ee, cR (iA d) [], ee] [] = .ok (.ret (iA d) [], [ee], [MZ W 72 [.str h.3, .str h2.3] [] (.ret (iA d) []), decide (h.kind = 4) = true, decide (h.kind = 3) = false, (!decide (c = 0)) = false, MZ W 70 [iA (rankV h.kind), iA (rankV h2.kind)] [] (.ret (iA c) []), MZ W 71 [eV h2 l2] [] (.ret (iA (rankV h2.kind)) []), MZ W 71 [eV h l] [] (.ret (iA (rankV h.kind)) [])]) := by kernel_rfl
theorem p83_3 (W : World) (h : JH) (l : List JV) (h2 : JH) (l2 : List JV) (c d : Int) : sF W { lp := true, tl := [70, 71, 72, 73] } 38 [eV h l, eV h2 l2] [] 100000 [ee, cR (iA (rankV h.kind)) [], ee, cR (iA (rankV h2.kind)) [], ee, cR (iA c) [], bf, bf, bf, bt, bt, ee, cR (iA d) [], ee] [] = .ok (.ret (iA d) [], [ee], MZ W 73 [eV h l, eV h2 l2] [] (.ret (iA d) []) :: (d2 (decide (h.kind = 5) = true) [decide (h.kind = 4) = false, decide (h.kind = 3) = false, (!decide (c = 0)) = false, MZ W 70 [iA (rankV h.kind), iA (rankV h2.kind)] [] (.ret (iA c) []), MZ W 71 [eV h2 l2] [] (.ret (iA (rankV h2.kind)) []), MZ W 71 [eV h l] [] (.ret (iA (rankV h.kind)) [])])) := by kernel_rfl
theorem p83_4 (W : World) (h : JH) (l : List JV) (h2 : JH) (l2 : List JV) (c d : Int) : sF W { lp := true, tl := [70, 71, 72, 73] } 38 [eV h l, eV h2 l2] [] 100000 [ee, cR (iA (rankV h.kind)) [], ee, cR (iA (rankV h2.kind)) [], ee, cR (iA c) [], bf, bf, bf, bf, bt, ee, cR (iA d) [], ee] [] = .ok (.ret (iA d) [], [ee], [MZ W 73 [eV h l, eV h2 l2] [] (.ret (iA d) []), decide (h.kind = 6) = true, decide (h.kind = 5) = false, decide (h.kind = 4) = false, decide (h.kind = 3) = false, (!decide (c = 0)) = false, MZ W 70 [iA (rankV h.kind), iA (rankV h2.kind)] [] (.ret (iA c) []), MZ W 71 [eV h2 l2] [] (.ret (iA (rankV h2.kind)) []), MZ W 71 [eV h l] [] (.ret (iA (rankV h.kind)) [])]) := by kernel_rfl
theorem p83_5 (W : World) (h : JH) (l : List JV) (h2 : JH) (l2 : List JV) (c : Int) : sF W { lp := true, tl := [70, 71, 72, 73] } 38 [eV h l, eV h2 l2] [] 100000 [ee, cR (iA (rankV h.kind)) [], ee, cR (iA (rankV h2.kind)) [], ee, cR (iA c) [], bf, bf, bf, bf, bf, ee] [] = .ok (.ret (iA 0) [], [ee], [decide (h.kind = 6) = false, decide (h.kind = 5) = false, decide (h.kind = 4) = false, decide (h.kind = 3) = false, (!decide (c = 0)) = false, MZ W 70 [iA (rankV h.kind), iA (rankV h2.kind)] [] (.ret (iA c) []), MZ W 71 [eV h2 l2] [] (.ret (iA (rankV h2.kind)) []), MZ W 71 [eV h l] [] (.ret (iA (rankV h.kind)) [])]) := by kernel_rfl
theorem b123_0 (W : World) (a b : List JV) (i : Nat) (h : JH) (l : List JV) : sbodyM Tryz.prog W { lp := true, tl := [36] } 67 0 [] (S123 a b i) [bt, aE 1, oS (eV h l), bt, ee] = .ok ((.ret, { t := [(0, sL 5 (encVs a)), (1, sL 5 (encVs b)), (2, .val (Value.func (Fn.func 36) #[] #[])), (6, iA 1), (7, iA (↑i : Int)), (8, .gp 100000 0), (11, sL 5 (encVs a)), (12, iA (↑a.length : Int)), (13, iA (↑i : Int)), (14, bA (decide ((↑i : Int) < (↑a.length : Int)))), (15, iA (↑i : Int)), (16, (eV h l).ip 0), (17, eV h l), (18, iA (↑i : Int)), (19, sL 5 (encVs b)), (20, iA (↑(encVs b).length : Int)), (21, bA (decide ((↑(encVs b).length : Int) ≤ (↑i : Int))))], h := [(100000, gB (eV h l))] }), [ee], [decide ((↑(encVs b).length : Int) ≤ (↑i : Int)) = true, (encVs a)[(↑i : Int).toNat]? = some (eV h l), decide ((↑i : Int) < (↑a.length : Int)) = true]) := by kernel_rfl
theorem b123_1 (W : World) (a b : List JV) (i : Nat) (h : JH) (l : List JV) (h2 : JH) (l2 : List JV) (d : Int) : sbodyM Tryz.prog W { lp := true, tl := [36] } 67 0 [] (S123 a b i) [bt, aE 1, oS (eV h l), bf, aE 1, oS (eV h2 l2), ee, cR (iA d) [], bt, ee] = .ok ((.ret, { t := [(0, sL 5 (encVs a)), (1, sL 5 (encVs b)), (2, .val (Value.func (Fn.func 36) #[] #[])), (6, iA d), (7, iA (↑i : Int)), (8, .gp 100000 0), (9, .gp 100001 0), (10, iA d), (11, sL 5 (encVs a)), (12, iA (↑a.length : Int)), (13, iA (↑i : Int)), (14, bA (decide ((↑i : Int) < (↑a.length : Int)))), (15, iA (↑i : Int)), (16, (eV h l).ip 0), (17, eV h l), (18, iA (↑i : Int)), (19, sL 5 (encVs b)), (20, iA (↑(encVs b).length : Int)), (21, bA (decide ((↑(encVs b).length : Int) ≤ (↑i : Int)))), (22, sL 5 (encVs b)), (23, iA (↑i : Int)), (24, (eV h2 l2).ip 0), (25, eV h2 l2), (26, .val (Value.func (Fn.func 36) #[] #[])), (27, eV h l), (28, eV h2 l2), (29, iA d), (30, iA d), (31, bA (!decide (d = 0))), (32, iA d)], h := [(100000, gB (eV h l)), (100001, gB (eV h2 l2))] }), [ee], [(!decide (d = 0)) = true, MZ W 36 [eV h l, eV h2 l2] [] (.ret (iA d) []), (encVs b)[(↑i : Int).toNat]? = some (eV h2 l2), decide ((↑(encVs b).length : Int) ≤ (↑i : Int)) = false, (encVs a)[(↑i : Int).toNat]? = some (eV h l), decide ((↑i : Int) < (↑a.length : Int)) = true]) := by kernel_rfl
theorem b123_2 (W : World) (a b : List JV) (i : Nat) (h : JH) (l : List JV) (h2 : JH) (l2 : List JV) (d : Int) : sQ W { lp := true, tl := [36] } 67 0 [] [0, 1, 2, 11, 12, 13] (S123 a b i) [bt, aE 1, oS (eV h l), bf, aE 1, oS (eV h2 l2), ee, cR (iA d) [], bf, ee] = .ok ((.normal, { t := [(0, sL 5 (encVs a)), (1, sL 5 (encVs b)), (2, .val (Value.func (Fn.func 36) #[] #[])), (11, sL 5 (encVs a)), (12, iA (↑a.length : Int)), (13, iA (IntKind.i64.wrap ((↑i : Int) + 1)))], h := [(100000, gB (eV h l)), (100001, gB (eV h2 l2))] }), [ee], [(!decide (d = 0)) = false, MZ W 36 [eV h l, eV h2 l2] [] (.ret (iA d) []), (encVs b)[(↑i : Int).toNat]? = some (eV h2 l2), decide ((↑(encVs b).length : Int) ≤ (↑i : Int)) = false, (encVs a)[(↑i : Int).toNat]? = some (eV h l), decide ((↑i : Int) < (↑a.length : Int)) = true]) := by kernel_rfl
theorem b123_3 (W : World) (a b : List JV) (i : Nat) (h : JH) : sbodyM Tryz.prog W { lp := true, tl := [36] } 67 0 [] (S123 a b i) [bf, ee] = .ok ((.exit 0, { t := [(0, sL 5 (encVs a)), (1, sL 5 (encVs b)), (2, .val (Value.func (Fn.func 36) #[] #[])), (11, sL 5 (encVs a)), (12, iA (↑a.length : Int)), (13, iA (↑i : Int)), (14, bA (decide ((↑i : Int) < (↑a.length : Int))))], h := [] }), [ee], [decide ((↑i : Int) < (↑a.length : Int)) = false]) := by kernel_rfl
theorem p123_0 (W : World) (a b : List JV) (d : Int) : sF W { lp := true } 67 [.sl 5 (encVs a) [], .sl 5 (encVs b) [], .val (.func (.func 36) #[] #[])] [] 100000 [ee, .loopM [] [] (S123 a b 0) .ret (Rv 6 d), ee] [] = .ok (.ret (iA d) [], [ee], [LZ W [] 67 0 (S123 a b 0) .ret (Rv 6 d), MatchK [] [] [] { t := [(0, sL 5 (encVs a)), (1, sL 5 (encVs b)), (2, .val (Value.func (Fn.func 36) #[] #[])), (11, sL 5 (encVs a)), (12, iA (↑(encVs a).length : Int)), (13, iA 0)], h := [] } (S123 a b 0)]) := by kernel_rfl
theorem q123_0 (W : World) (a b : List JV) : sF W { lp := true } 67 [.sl 5 (encVs a) [], .sl 5 (encVs b) [], .val (.func (.func 36) #[] #[])] [] 100000 [ee, .loopM [] [] (S123 a b 0) (.exit 0) (E123 a b), bt, ee] [] = .ok (.ret (iA (-1)) [], [ee], [decide ((↑(encVs a).length : Int) < (↑(encVs b).length : Int)) = true, LZ W [] 67 0 (S123 a b 0) (.exit 0) (E123 a b), MatchK [] [] [] { t := [(0, sL 5 (encVs a)), (1, sL 5 (encVs b)), (2, .val (Value.func (Fn.func 36) #[] #[])), (11, sL 5 (encVs a)), (12, iA (↑(encVs a).length : Int)), (13, iA 0)], h := [] } (S123 a b 0)]) := by kernel_rfl
theorem q123_1 (W : World) (a b : List JV) : sF W { lp := true } 67 [.sl 5 (encVs a) [], .sl 5 (encVs b) [], .val (.func (.func 36) #[] #[])] [] 100000 [ee, .loopM [] [] (S123 a b 0) (.exit 0) (E123 a b), bf, ee] [] = .ok (.ret (iA 0) [], [ee], [decide ((↑(encVs a).length : Int) < (↑(encVs b).length : Int)) = false, LZ W [] 67 0 (S123 a b 0) (.exit 0) (E123 a b), MatchK [] [] [] { t := [(0, sL 5 (encVs a)), (1, sL 5 (encVs b)), (2, .val (Value.func (Fn.func 36) #[] #[])), (11, sL 5 (encVs a)), (12, iA (↑(encVs a).length : Int)), (13, iA 0)], h := [] } (S123 a b 0)]) := by kernel_rfl
theorem b124_0 (W : World) (h : JH) (l : List JV) (h2 : JH) (l2 : List JV) (n m k i : Nat) (x y : List UInt8) (c : Int) : sbodyM Tryz.prog W { lp := true, tl := [66, 36] } 68 0 [] (S124 h l h2 l2 n m k i) [bt, aE 1, oS (.str x), aE 1, oS (.str y), ee, cR (iA c) [], bt, ee] = .ok ((.ret, { t := [(2, .gp 100000 0), (3, .gp 100001 0), (4, iA c), (5, iA (↑n : Int)), (6, iA (↑m : Int)), (7, iA (↑i : Int)), (8, iA c), (26, iA (↑k : Int)), (27, iA (↑i : Int)), (28, bA (decide ((↑i : Int) < (↑k : Int)))), (29, iA (↑i : Int)), (30, .gp 100000 3), (31, sL 1 (List.map AV.str h.names)), (32, iA (↑i : Int)), (33, (AV.str x).ip 0), (34, .str x), (35, .gp 100001 3), (36, sL 1 (List.map AV.str h2.names)), (37, iA (↑i : Int)), (38, (AV.str y).ip 0), (39, .str y), (40, iA c), (41, iA c), (42, bA (!decide (c = 0))), (43, iA c)], h := [(100000, gB (eV h l)), (100001, gB (eV h2 l2))] }), [ee], [(!decide (c = 0)) = true, MZ W 66 [.str x, .str y] [] (.ret (iA c) []), (List.map AV.str h2.names)[(↑i : Int).toNat]? = some (AV.str y), (List.map AV.str h.names)[(↑i : Int).toNat]? = some (AV.str x), decide ((↑i : Int) < (↑k : Int)) = true]) := by kernel_rfl
theorem b124_1 (W : World) (h : JH) (l : List JV) (h2 : JH) (l2 : List JV) (n m k i : Nat) (x y : List UInt8) (h3 : JH) (l3 : List JV) (h4 : JH) (l4 : List JV) (c d : Int) : sbodyM Tryz.prog W { lp := true, tl := [66, 36] } 68 0 [] (S124 h l h2 l2 n m k i) [bt, aE 1, oS (.str x), aE 1, oS (.str y), ee, cR (iA c) [], bf, aE 1, oS (eV h3 l3), aE 1, oS (eV h4 l4), ee, cR (iA d) [], bt, ee] = .ok ((.ret, { t := [(2, .gp 100000 0), (3, .gp 100001 0), (4, iA d), (5, iA (↑n : Int)), (6, iA (↑m : Int)), (7, iA (↑i : Int)), (8, iA c), (9, iA d), (26, iA (↑k : Int)), (27, iA (↑i : Int)), (28, bA (decide ((↑i : Int) < (↑k : Int)))), (29, iA (↑i : Int)), (30, .gp 100000 3), (31, sL 1 (List.map AV.str h.names)), (32, iA (↑i : Int)), (33, (AV.str x).ip 0), (34, .str x), (35, .gp 100001 3), (36, sL 1 (List.map AV.str h2.names)), (37, iA (↑i : Int)), (38, (AV.str y).ip 0), (39, .str y), (40, iA c), (41, iA c), (42, bA (!decide (c = 0))), (44, .gp 100000 4), (45, sL 5 (encVs l)), (46, iA (↑i : Int)), (47, (eV h3 l3).ip 0), (48, eV h3 l3), (49, .gp 100001 4), (50, sL 5 (encVs l2)), (51, iA (↑i : Int)), (52, (eV h4 l4).ip 0), (53, eV h4 l4), (54, iA d), (55, iA d), (56, bA (!decide (d = 0))), (57, iA d)], h := [(100000, gB (eV h l)), (100001, gB (eV h2 l2))] }), [ee], [(!decide (d = 0)) = true, MZ W 36 [eV h3 l3, eV h4 l4] [] (.ret (iA d) []), (encVs l2)[(↑i : Int).toNat]? = some (eV h4 l4), (encVs l)[(↑i : Int).toNat]? = some (eV h3 l3), (!decide (c = 0)) = false, MZ W 66 [.str x, .str y] [] (.ret (iA c) []), (List.map AV.str h2.names)[(↑i : Int).toNat]? = some (AV.str y), (List.map AV.str h.names)[(↑i : Int).toNat]? = some (AV.str x), decide ((↑i : Int) < (↑k : Int)) = true]) := by kernel_rfl
theorem b124_2 (W : World) (h : JH) (l : List JV) (h2 : JH) (l2 : List JV) (n m k i : Nat) (x y : List UInt8) (h3 : JH) (l3 : List JV) (h4 : JH) (l4 : List JV) (c d : Int) : sQ W { lp := true, tl := [66, 36] } 68 0 [] [2, 3, 5, 6, 26, 27] (S124 h l h2 l2 n m k i) [bt, aE 1, oS (.str x), aE 1, oS (.str y), ee, cR (iA c) [], bf, aE 1, oS (eV h3 l3), aE 1, oS (eV h4 l4), ee, cR (iA d) [], bf, ee] = .ok ((.normal, { t := [(2, .gp 100000 0), (3, .gp 100001 0), (5, iA (↑n : Int)), (6, iA (↑m : Int)), (26, iA (↑k : Int)), (27, iA (IntKind.i64.wrap ((↑i : Int) + 1)))], h := [(100000, gB (eV h l)), (100001, gB (eV h2 l2))] }), [ee], [(!decide (d = 0)) = false, MZ W 36 [eV h3 l3, eV h4 l4] [] (.ret (iA d) []), (encVs l2)[(↑i : Int).toNat]? = some (eV h4 l4), (encVs l)[(↑i : Int).toNat]? = some (eV h3 l3), (!decide (c = 0)) = false, MZ W 66 [.str x, .str y] [] (.ret (iA c) []), (List.map AV.str h2.names)[(↑i : Int).toNat]? = some (AV.str y), (List.map AV.str h.names)[(↑i : Int).toNat]? = some (AV.str x), decide ((↑i : Int) < (↑k : Int)) = true]) := by kernel_rfl
theorem b124_3 (W : World) (h : JH) (l : List JV) (h2 : JH) (l2 : List JV) (n m k i : Nat) : sbodyM Tryz.prog W { lp := true, tl := [66, 36] } 68 0 [] (S124 h l h2 l2 n m k i) [bf, ee] = .ok ((.exit 0, { t := [(2, .gp 100000 0), (3, .gp 100001 0), (5, iA (↑n : Int)), (6, iA (↑m : Int)), (26, iA (↑k : Int)), (27, iA (↑i : Int)), (28, bA (decide ((↑i : Int) < (↑k : Int))))], h := [(100000, gB (eV h l)), (100001, gB (eV h2 l2))] }), [ee], [decide ((↑i : Int) < (↑k : Int)) = false]) := by kernel_rfl
theorem b129_0 (W : World) (h : JH) (l : List JV) (h2 : JH) (l2 : List JV) (n m i : Nat) (x y : List UInt8) (c : Int) : sbodyM Tryz.prog W { lp := true, tl := [72, 38] } 73 0 [] (S129 h l h2 l2 n m i) [bt, bt, bt, bt, bt, bt, aE 1, oS (.str x), aE 1, oS (.str y), ee, cR (iA c) [], bt, ee] = .ok ((.ret, { t := [(2, .gp 100000 0), (3, .gp 100001 0), (4, iA c), (5, iA (↑n : Int)), (6, iA (↑m : Int)), (7, iA (↑i : Int)), (8, iA c), (14, iA (↑i : Int)), (15, iA (↑n : Int)), (16, bA (decide ((↑i : Int) < (↑n : Int)))), (17, bA (decide ((↑i : Int) < (↑n : Int)))), (18, iA (↑i : Int)), (19, iA (↑m : Int)), (20, bA (decide ((↑i : Int) < (↑m : Int)))), (21, bA (decide ((↑i : Int) < (↑m : Int)))), (24, .gp 100000 0), (25, iA h.kind), (26, bA (decide (h.kind = 6))), (27, .gp 100000 3), (28, sL 1 (List.map AV.str h.names)), (29, iA (↑i : Int)), (30, (AV.str x).ip 0), (31, .str x), (32, .gp 100001 3), (33, sL 1 (List.map AV.str h2.names)), (34, iA (↑i : Int)), (35, (AV.str y).ip 0), (36, .str y), (37, iA c), (38, iA c), (39, bA (!decide (c = 0))), (40, iA c)], h := [(100000, gB (eV h l)), (100001, gB (eV h2 l2))] }), [ee], ((!decide (c = 0)) = true) :: MZ W 72 [.str x, .str y] [] (.ret (iA c) []) :: ((List.map AV.str h2.names)[(↑i : Int).toNat]? = some (AV.str y)) :: ((List.map AV.str h.names)[(↑i : Int).toNat]? = some (AV.str x)) :: (decide (h.kind = 6) = true) :: (decide ((↑i : Int) < (↑m : Int)) = true) :: (d4 (decide ((↑i : Int) < (↑n : Int)) = true) [])) := by kernel_rfl
theorem b129_1 (W : World) (h : JH) (l : List JV) (h2 : JH) (l2 : List JV) (n m i : Nat) (x y : List UInt8) (h3 : JH) (l3 : List JV) (h4 : JH) (l4 : List JV) (c d : Int) : sbodyM Tryz.prog W { lp := true, tl := [72, 38] } 73 0 [] (S129 h l h2 l2 n m i) [bt, bt, bt, bt, bt, bt, aE 1, oS (.str x), aE 1, oS (.str y), ee, cR (iA c) [], bf, aE 1, oS (eV h3 l3), aE 1, oS (eV h4 l4), ee, cR (iA d) [], bt, ee] = .ok ((.ret, { t := [(2, .gp 100000 0), (3, .gp 100001 0), (4, iA d), (5, iA (↑n : Int)), (6, iA (↑m : Int)), (7, iA (↑i : Int)), (8, iA c), (9, iA d), (14, iA (↑i : Int)), (15, iA (↑n : Int)), (16, bA (decide ((↑i : Int) < (↑n : Int)))), (17, bA (decide ((↑i : Int) < (↑n : Int)))), (18, iA (↑i : Int)), (19, iA (↑m : Int)), (20, bA (decide ((↑i : Int) < (↑m : Int)))), (21, bA (decide ((↑i : Int) < (↑m : Int)))), (24, .gp 100000 0), (25, iA h.kind), (26, bA (decide (h.kind = 6))), (27, .gp 100000 3), (28, sL 1 (List.map AV.str h.names)), (29, iA (↑i : Int)), (30, (AV.str x).ip 0), (31, .str x), (32, .gp 100001 3), (33, sL 1 (List.map AV.str h2.names)), (34, iA (↑i : Int)), (35, (AV.str y).ip 0), (36, .str y), (37, iA c), (38, iA c), (39, bA (!decide (c = 0))), (41, .gp 100000 4), (42, sL 5 (encVs l)), (43, iA (↑i : Int)), (44, (eV h3 l3).ip 0), (45, eV h3 l3), (46, .gp 100001 4), (47, sL 5 (encVs l2)), (48, iA (↑i : Int)), (49, (eV h4 l4).ip 0), (50, eV h4 l4), (51, iA d), (52, iA d), (53, bA (!decide (d = 0))), (54, iA d)], h := [(100000, gB (eV h l)), (100001, gB (eV h2 l2))] }), [ee], ((!decide (d = 0)) = true) :: MZ W 38 [eV h3 l3, eV h4 l4] [] (.ret (iA d) []) :: ((encVs l2)[(↑i : Int).toNat]? = some (eV h4 l4)) :: ((encVs l)[(↑i : Int).toNat]? = some (eV h3 l3)) :: ((!decide (c = 0)) = false) :: MZ W 72 [.str x, .str y] [] (.ret (iA c) []) :: ((List.map AV.str h2.names)[(↑i : Int).toNat]? = some (AV.str y)) :: ((List.map AV.str h.names)[(↑i : Int).toNat]? = some (AV.str x)) :: (decide (h.kind = 6) = true) :: (decide ((↑i : Int) < (↑m : Int)) = true) :: (d4 (decide ((↑i : Int) < (↑n : Int)) = true) [])) := by kernel_rfl
theorem b129_2 (W : World) (h : JH) (l : List JV) (h2 : JH) (l2 : List JV) (n m i : Nat) (x y : List UInt8) (h3 : JH) (l3 : List JV) (h4 : JH) (l4 : List JV) (c d : Int) : sQ W { lp := true, tl := [72, 38] } 73 0 [] [2, 3, 5, 6, 7] (S129 h l h2 l2 n m i) [bt, bt, bt, bt, bt, bt, aE 1, oS (.str x), aE 1, oS (.str y), ee, cR (iA c) [], bf, aE 1, oS (eV h3 l3), aE 1, oS (eV h4 l4), ee, cR (iA d) [], bf, ee] = .ok ((.normal, { t := [(2, .gp 100000 0), (3, .gp 100001 0), (5, iA (↑n : Int)), (6, iA (↑m : Int)), (7, iA (IntKind.i64.wrap ((↑i : Int) + 1)))], h := [(100000, gB (eV h l)), (100001, gB (eV h2 l2))] }), [ee], ((!decide (d = 0)) = false) :: MZ W 38 [eV h3 l3, eV h4 l4] [] (.ret (iA d) []) :: ((encVs l2)[(↑i : Int).toNat]? = some (eV h4 l4)) :: ((encVs l)[(↑i : Int).toNat]? = some (eV h3 l3)) :: ((!decide (c = 0)) = false) :: MZ W 72 [.str x, .str y] [] (.ret (iA c) []) :: ((List.map AV.str h2.names)[(↑i : Int).toNat]? = some (AV.str y)) :: ((List.map AV.str h.names)[(↑i : Int).toNat]? = some (AV.str x)) :: (decide (h.kind = 6) = true) :: (decide ((↑i : Int) < (↑m : Int)) = true) :: (d4 (decide ((↑i : Int) < (↑n : Int)) = true) [])) := by kernel_rfl
theorem b129_3 (W : World) (h : JH) (l : List JV) (h2 : JH) (l2 : List JV) (n m i : Nat) : sbodyM Tryz.prog W { lp := true, tl := [72, 38] } 73 0 [] (S129 h l h2 l2 n m i) [bt, bt, bt, bt, bf, ee] = .ok ((.exit 0, { t := [(2, .gp 100000 0), (3, .gp 100001 0), (5, iA (↑n : Int)), (6, iA (↑m : Int)), (7, iA (↑i : Int)), (14, iA (↑i : Int)), (15, iA (↑n : Int)), (16, bA (decide ((↑i : Int) < (↑n : Int)))), (17, bA (decide ((↑i : Int) < (↑n : Int)))), (18, iA (↑i : Int)), (19, iA (↑m : Int)), (20, bA (decide ((↑i : Int) < (↑m : Int)))), (21, bA (decide ((↑i : Int) < (↑m : Int))))], h := [(100000, gB (eV h l)), (100001, gB (eV h2 l2))] }), [ee], (decide ((↑i : Int) < (↑m : Int)) = false) :: (d4 (decide ((↑i : Int) < (↑n : Int)) = true) [])) := by kernel_rfl
theorem b129_4 (W : World) (h : JH) (l : List JV) (h2 : JH) (l2 : List JV) (n m i : Nat) : sbodyM Tryz.prog W { lp := true, tl := [72, 38] } 73 0 [] (S129 h l h2 l2 n m i) [bf, bf, bf, bf, ee] = .ok ((.exit 0, { t := [(2, .gp 100000 0), (3, .gp 100001 0), (5, iA (↑n : Int)), (6, iA (↑m : Int)), (7, iA (↑i : Int)), (14, iA (↑i : Int)), (15, iA (↑n : Int)), (16, bA (decide ((↑i : Int) < (↑n : Int)))), (17, bA (decide ((↑i : Int) < (↑n : Int)))), (18, .val (Value.tuple #[])), (19, .val (Value.tuple #[])), (20, .val (Value.tuple #[])), (21, bA false)], h := [(100000, gB (eV h l)), (100001, gB (eV h2 l2))] }), [aE 9999999], d4 (decide ((↑i : Int) < (↑n : Int)) = false) []) := by kernel_rfl
theorem c129_0 (W : World) (h : JH) (l : List JV) (h2 : JH) (l2 : List JV) (n m i : Nat) (h3 : JH) (l3 : List JV) (h4 : JH) (l4 : List JV) (d : Int) : sbodyM Tryz.prog W { lp := true, tl := [72, 38] } 73 0 [] (S129 h l h2 l2 n m i) [bt, bt, bt, bt, bt, bf, aE 1, oS (eV h3 l3), aE 1, oS (eV h4 l4), ee, cR (iA d) [], bt, ee] = .ok ((.ret, { t := [(2, .gp 100000 0), (3, .gp 100001 0), (4, iA d), (5, iA (↑n : Int)), (6, iA (↑m : Int)), (7, iA (↑i : Int)), (9, iA d), (14, iA (↑i : Int)), (15, iA (↑n : Int)), (16, bA (decide ((↑i : Int) < (↑n : Int)))), (17, bA (decide ((↑i : Int) < (↑n : Int)))), (18, iA (↑i : Int)), (19, iA (↑m : Int)), (20, bA (decide ((↑i : Int) < (↑m : Int)))), (21, bA (decide ((↑i : Int) < (↑m : Int)))), (24, .gp 100000 0), (25, iA h.kind), (26, bA (decide (h.kind = 6))), (41, .gp 100000 4), (42, sL 5 (encVs l)), (43, iA (↑i : Int)), (44, (eV h3 l3).ip 0), (45, eV h3 l3), (46, .gp 100001 4), (47, sL 5 (encVs l2)), (48, iA (↑i : Int)), (49, (eV h4 l4).ip 0), (50, eV h4 l4), (51, iA d), (52, iA d), (53, bA (!decide (d = 0))), (54, iA d)], h := [(100000, gB (eV h l)), (100001, gB (eV h2 l2))] }), [ee], ((!decide (d = 0)) = true) :: MZ W 38 [eV h3 l3, eV h4 l4] [] (.ret (iA d) []) :: ((encVs l2)[(↑i : Int).toNat]? = some (eV h4 l4)) :: ((encVs l)[(↑i : Int).toNat]? = some (eV h3 l3)) :: (decide (h.kind = 6) = false) :: (decide ((↑i : Int) < (↑m : Int)) = true) :: (d4 (decide ((↑i : Int) < (↑n : Int)) = true) [])) := by kernel_rfl
theorem c129_1 (W : World) (h : JH) (l : List JV) (h2 : JH) (l2 : List JV) (n m i : Nat) (h3 : JH) (l3 : List JV) (h4 : JH) (l4 : List JV) (d : Int) : sQ W { lp := true, tl := [72, 38] } 73 0 [] [2, 3, 5, 6, 7] (S129 h l h2 l2 n m i) [bt, bt, bt, bt, bt, bf, aE 1, oS (eV h3 l3), aE 1, oS (eV h4 l4), ee, cR (iA d) [], bf, ee] = .ok ((.normal, { t := [(2, .gp 100000 0), (3, .gp 100001 0), (5, iA (↑n : Int)), (6, iA (↑m : Int)), (7, iA (IntKind.i64.wrap ((↑i : Int) + 1)))], h := [(100000, gB (eV h l)), (100001, gB (eV h2 l2))] }), [ee], ((!decide (d = 0)) = false) :: MZ W 38 [eV h3 l3, eV h4 l4] [] (.ret (iA d) []) :: ((encVs l2)[(↑i : Int).toNat]? = some (eV h4 l4)) :: ((encVs l)[(↑i : Int).toNat]? = some (eV h3 l3)) :: (decide (h.kind = 6) = false) :: (decide ((↑i : Int) < (↑m : Int)) = true) :: (d4 (decide ((↑i : Int) < (↑n : Int)) = true) [])) := by kernel_rfl
theorem c129_2 (W : World) (h : JH) (l : List JV) (h2 : JH) (l2 : List JV) (n m i : Nat) : sbodyM Tryz.prog W { lp := true, tl := [72, 38] } 73 0 [] (S129 h l h2 l2 n m i) [bt, bt, bt, bt, bf, ee] = .ok ((.exit 0, { t := [(2, .gp 100000 0), (3, .gp 100001 0), (5, iA (↑n : Int)), (6, iA (↑m : Int)), (7, iA (↑i : Int)), (14, iA (↑i : Int)), (15, iA (↑n : Int)), (16, bA (decide ((↑i : Int) < (↑n : Int)))), (17, bA (decide ((↑i : Int) < (↑n : Int)))), (18, iA (↑i : Int)), (19, iA (↑m : Int)), (20, bA (decide ((↑i : Int) < (↑m : Int)))), (21, bA (decide ((↑i : Int) < (↑m : Int))))], h := [(100000, gB (eV h l)), (100001, gB (eV h2 l2))] }), [ee], (decide ((↑i : Int) < (↑m : Int)) = false) :: (d4 (decide ((↑i : Int) < (↑n : Int)) = true) [])) := by kernel_rfl
theorem c129_3 (W : World) (h : JH) (l : List JV) (h2 : JH) (l2 : List JV) (n m i : Nat) : sbodyM Tryz.prog W { lp := true, tl := [72, 38] } 73 0 [] (S129 h l h2 l2 n m i) [bf, bf, bf, bf, ee] = .ok ((.exit 0, { t := [(2, .gp 100000 0), (3, .gp 100001 0), (5, iA (↑n : Int)), (6, iA (↑m : Int)), (7, iA (↑i : Int)), (14, iA (↑i : Int)), (15, iA (↑n : Int)), (16, bA (decide ((↑i : Int) < (↑n : Int)))), (17, bA (decide ((↑i : Int) < (↑n : Int)))), (18, .val (Value.tuple #[])), (19, .val (Value.tuple #[])), (20, .val (Value.tuple #[])), (21, bA false)], h := [(100000, gB (eV h l)), (100001, gB (eV h2 l2))] }), [aE 9999999], d4 (decide ((↑i : Int) < (↑n : Int)) = false) []) := by kernel_rfl
theorem p124_0 (W : World) (h : JH) (l : List JV) (h2 : JH) (l2 : List JV) (n m k : Nat) (d : Int) : sF W { lp := true, tl := [63] } 68 [eV h l, eV h2 l2] [] 100000 [ee, .loopM [] [] (S124 h l h2 l2 n m k 0) .ret (Rv 4 d), ee] [] = .ok (.ret (iA d) [], [ee], [LZ W [] 68 0 (S124 h l h2 l2 n m k 0) .ret (Rv 4 d), MatchK [] [] [] { t := [(2, .gp 100000 0), (3, .gp 100001 0), (5, iA (if (↑(encVs l).length : Int) < (↑(List.map AV.str h.names).length : Int) then (↑(encVs l).length : Int) else (↑(List.map AV.str h.names).length : Int))), (6, iA (if (↑(encVs l2).length : Int) < (↑(List.map AV.str h2.names).length : Int) then (↑(encVs l2).length : Int) else (↑(List.map AV.str h2.names).length : Int))), (26, iA (if (if (↑(encVs l2).length : Int) < (↑(List.map AV.str h2.names).length : Int) then (↑(encVs l2).length : Int) else (↑(List.map AV.str h2.names).length : Int)) < if (↑(encVs l).length : Int) < (↑(List.map AV.str h.names).length : Int) then (↑(encVs l).length : Int) else (↑(List.map AV.str h.names).length : Int) then if (↑(encVs l2).length : Int) < (↑(List.map AV.str h2.names).length : Int) then (↑(encVs l2).length : Int) else (↑(List.map AV.str h2.names).length : Int) else if (↑(encVs l).length : Int) < (↑(List.map AV.str h.names).length : Int) then (↑(encVs l).length : Int) else (↑(List.map AV.str h.names).length : Int))), (27, iA 0)], h := [(100000, gB (eV h l)), (100001, gB (eV h2 l2))] } (S124 h l h2 l2 n m k 0)]) := by kernel_rfl
theorem p129_0 (W : World) (h : JH) (l : List JV) (h2 : JH) (l2 : List JV) (n m : Nat) (d : Int) : sF W { lp := true, tl := [94, 70] } 73 [eV h l, eV h2 l2] [] 100000 [ee, cR (iA (↑n : Int)) [], ee, cR (iA (↑m : Int)) [], ee, .loopM [] [] (S129 h l h2 l2 n m 0) .ret (Rv 4 d), ee] [] = .ok (.ret (iA d) [], [ee], [LZ W [] 73 0 (S129 h l h2 l2 n m 0) .ret (Rv 4 d), MatchK [] [] [] { t := [(2, .gp 100000 0), (3, .gp 100001 0), (5, iA (↑n : Int)), (6, iA (↑m : Int)), (7, iA 0)], h := [(100000, gB (eV h l)), (100001, gB (eV h2 l2))] } (S129 h l h2 l2 n m 0), MZ W 94 [eV h2 l2] [] (.ret (iA (↑m : Int)) []), MZ W 94 [eV h l] [] (.ret (iA (↑n : Int)) [])]) := by kernel_rfl
theorem q124_0 (W : World) (h : JH) (l : List JV) (h2 : JH) (l2 : List JV) (n m k : Nat) (d : Int) : sF W { lp := true, tl := [63] } 68 [eV h l, eV h2 l2] [] 100000 [ee, .loopM [] [] (S124 h l h2 l2 n m k 0) (.exit 0) (E124 n m), ee, cR (iA d) [], ee] [] = .ok (.ret (iA d) [], [ee], [MZ W 63 [iA (↑n : Int), iA (↑m : Int)] [] (.ret (iA d) []), LZ W [] 68 0 (S124 h l h2 l2 n m k 0) (.exit 0) (E124 n m), MatchK [] [] [] { t := [(2, .gp 100000 0), (3, .gp 100001 0), (5, iA (if (↑(encVs l).length : Int) < (↑(List.map AV.str h.names).length : Int) then (↑(encVs l).length : Int) else (↑(List.map AV.str h.names).length : Int))), (6, iA (if (↑(encVs l2).length : Int) < (↑(List.map AV.str h2.names).length : Int) then (↑(encVs l2).length : Int) else (↑(List.map AV.str h2.names).length : Int))), (26, iA (if (if (↑(encVs l2).length : Int) < (↑(List.map AV.str h2.names).length : Int) then (↑(encVs l2).length : Int) else (↑(List.map AV.str h2.names).length : Int)) < if (↑(encVs l).length : Int) < (↑(List.map AV.str h.names).length : Int) then (↑(encVs l).length : Int) else (↑(List.map AV.str h.names).length : Int) then if (↑(encVs l2).length : Int) < (↑(List.map AV.str h2.names).length : Int) then (↑(encVs l2).length : Int) else (↑(List.map AV.str h2.names).length : Int) else if (↑(encVs l).length : Int) < (↑(List.map AV.str h.names).length : Int) then (↑(encVs l).length : Int) else (↑(List.map AV.str h.names).length : Int))), (27, iA 0)], h := [(100000, gB (eV h l)), (100001, gB (eV h2 l2))] } (S124 h l h2 l2 n m k 0)]) := by kernel_rfl
theorem q129_0 (W : World) (h : JH) (l : List JV) (h2 : JH) (l2 : List JV) (n m : Nat) (d : Int) : sF W { lp := true, tl := [94, 70] } 73 [eV h l, eV h2 l2] [] 100000 [ee, cR (iA (↑n : Int)) [], ee, cR (iA (↑m : Int)) [], ee, .loopM [] [] (S129 h l h2 l2 n m 0) (.exit 0) (E124 n m), ee, cR (iA d) [], ee] [] = .ok (.ret (iA d) [], [ee], [MZ W 70 [iA (↑n : Int), iA (↑m : Int)] [] (.ret (iA d) []), LZ W [] 73 0 (S129 h l h2 l2 n m 0) (.exit 0) (E124 n m), MatchK [] [] [] { t := [(2, .gp 100000 0), (3, .gp 100001 0), (5, iA (↑n : Int)), (6, iA (↑m : Int)), (7, iA 0)], h := [(100000, gB (eV h l)), (100001, gB (eV h2 l2))] } (S129 h l h2 l2 n m 0), MZ W 94 [eV h2 l2] [] (.ret (iA (↑m : Int)) []), MZ W 94 [eV h l] [] (.ret (iA (↑n : Int)) [])]) := by kernel_rfl
theorem b128_0 (W : World) (a b : List UInt8) (i : Nat) (x y : UInt8) : sbodyM Tryz.prog W { lp := true } 72 0 [] (S128 a b i) [bt, bt, bt, bt, bt, bt, aE 1, Ans.byt (some x), aE 1, Ans.byt (some y), bt, ee] = .ok ((.ret, { t := [(0, .str a), (1, .str b), (4, iA (-1)), (5, iA (↑i : Int)), (6, iA (↑i : Int)), (7, .str a), (8, iA (↑a.length : Int)), (9, bA (decide ((↑i : Int) < (↑a.length : Int)))), (10, bA (decide ((↑i : Int) < (↑a.length : Int)))), (11, iA (↑i : Int)), (12, .str b), (13, iA (↑b.length : Int)), (14, bA (decide ((↑i : Int) < (↑b.length : Int)))), (15, bA (decide ((↑i : Int) < (↑b.length : Int)))), (18, .str a), (19, iA (↑i : Int)), (20, .val (Value.int IntKind.u8 (↑x.toNat : Int))), (21, .str b), (22, iA (↑i : Int)), (23, .val (Value.int IntKind.u8 (↑y.toNat : Int))), (24, bA (decide ((↑x.toNat : Int) < (↑y.toNat : Int))))], h := [] }), [ee], (decide ((↑x.toNat : Int) < (↑y.toNat : Int)) = true) :: (b[(↑i : Int).toNat]? = some y) :: (a[(↑i : Int).toNat]? = some x) :: (decide ((↑i : Int) < (↑b.length : Int)) = true) :: (decide ((↑i : Int) < (↑a.length : Int)) = true) :: (d4 (decide ((↑i : Int) < (↑a.length : Int)) = true) [])) := by kernel_rfl
theorem b128_1 (W : World) (a b : List UInt8) (i : Nat) (x y : UInt8) : sbodyM Tryz.prog W { lp := true } 72 0 [] (S128 a b i) [bt, bt, bt, bt, bt, bt, aE 1, Ans.byt (some x), aE 1, Ans.byt (some y), bf, aE 1, Ans.byt (some x), aE 1, Ans.byt (some y), bt, ee] = .ok ((.ret, { t := [(0, .str a), (1, .str b), (4, iA 1), (5, iA (↑i : Int)), (6, iA (↑i : Int)), (7, .str a), (8, iA (↑a.length : Int)), (9, bA (decide ((↑i : Int) < (↑a.length : Int)))), (10, bA (decide ((↑i : Int) < (↑a.length : Int)))), (11, iA (↑i : Int)), (12, .str b), (13, iA (↑b.length : Int)), (14, bA (decide ((↑i : Int) < (↑b.length : Int)))), (15, bA (decide ((↑i : Int) < (↑b.length : Int)))), (18, .str a), (19, iA (↑i : Int)), (20, .val (Value.int IntKind.u8 (↑x.toNat : Int))), (21, .str b), (22, iA (↑i : Int)), (23, .val (Value.int IntKind.u8 (↑y.toNat : Int))), (24, bA (decide ((↑x.toNat : Int) < (↑y.toNat : Int)))), (25, .str a), (26, iA (↑i : Int)), (27, .val (Value.int IntKind.u8 (↑x.toNat : Int))), (28, .str b), (29, iA (↑i : Int)), (30, .val (Value.int IntKind.u8 (↑y.toNat : Int))), (31, bA (decide ((↑y.toNat : Int) < (↑x.toNat : Int))))], h := [] }), [ee], (decide ((↑y.toNat : Int) < (↑x.toNat : Int)) = true) :: (b[(↑i : Int).toNat]? = some y) :: (a[(↑i : Int).toNat]? = some x) :: (decide ((↑x.toNat : Int) < (↑y.toNat : Int)) = false) :: (b[(↑i : Int).toNat]? = some y) :: (a[(↑i : Int).toNat]? = some x) :: (decide ((↑i : Int) < (↑b.length : Int)) = true) :: (decide ((↑i : Int) < (↑a.length : Int)) = true) :: (d4 (decide ((↑i : Int) < (↑a.length : Int)) = true) [])) := by kernel_rfl
theorem b128_2 (W : World) (a b : List UInt8) (i : Nat) (x y : UInt8) : sQ W { lp := true } 72 0 [] [0, 1, 5] (S128 a b i) [bt, bt, bt, bt, bt, bt, aE 1, Ans.byt (some x), aE 1, Ans.byt (some y), bf, aE 1, Ans.byt (some x), aE 1, Ans.byt (some y), bf, ee] = .ok ((.normal, { t := [(0, .str a), (1, .str b), (5, iA (IntKind.i64.wrap ((↑i : Int) + 1)))], h := [] }), [ee], (decide ((↑y.toNat : Int) < (↑x.toNat : Int)) = false) :: (b[(↑i : Int).toNat]? = some y) :: (a[(↑i : Int).toNat]? = some x) :: (decide ((↑x.toNat : Int) < (↑y.toNat : Int)) = false) :: (b[(↑i : Int).toNat]? = some y) :: (a[(↑i : Int).toNat]? = some x) :: (decide ((↑i : Int) < (↑b.length : Int)) = true) :: (decide ((↑i : Int) < (↑a.length : Int)) = true) :: (d4 (decide ((↑i : Int) < (↑a.length : Int)) = true) [])) := by kernel_rfl
theorem b128_3 (W : World) (a b : List UInt8) (i : Nat) : sbodyM Tryz.prog W { lp := true } 72 0 [] (S128 a b i) [bt, bt, bt, bt, bt, bf, ee] = .ok ((.exit 0, { t := [(0, .str a), (1, .str b), (5, iA (↑i : Int)), (6, iA (↑i : Int)), (7, .str a), (8, iA (↑a.length : Int)), (9, bA (decide ((↑i : Int) < (↑a.length : Int)))), (10, bA (decide ((↑i : Int) < (↑a.length : Int)))), (11, iA (↑i : Int)), (12, .str b), (13, iA (↑b.length : Int)), (14, bA (decide ((↑i : Int) < (↑b.length : Int)))), (15, bA (decide ((↑i : Int) < (↑b.length : Int))))], h := [] }), [ee], (decide ((↑i : Int) < (↑b.length : Int)) = false) :: (decide ((↑i : Int) < (↑a.length : Int)) = true) :: (d4 (decide ((↑i : Int) < (↑a.length : Int)) = true) [])) := by kernel_rfl
theorem b128_4 (W : World) (a b : List UInt8) (i : Nat) : sbodyM Tryz.prog W { lp := true } 72 0 [] (S128 a b i) [bf, bf, bf, bf, bf, ee] = .ok ((.exit 0, { t := [(0, .str a), (1, .str b), (5, iA (↑i : Int)), (6, iA (↑i : Int)), (7, .str a), (8, iA (↑a.length : Int)), (9, bA (decide ((↑i : Int) < (↑a.length : Int)))), (10, bA (decide ((↑i : Int) < (↑a.length : Int)))), (11, .val (Value.tuple #[])), (12, .val (Value.tuple #[])), (13, .val (Value.tuple #[])), (14, .val (Value.tuple #[])), (15, bA false)], h := [] }), [aE 9999999], (decide ((↑i : Int) < (↑a.length : Int)) = false) :: (d4 (decide ((↑i : Int) < (↑a.length : Int)) = false) [])) := by kernel_rfl
theorem p128_0 (W : World) (a b : List UInt8) (d : Int) : sF W { lp := true, tl := [70] } 72 [.str a, .str b] [] 100000 [ee, .loopM [] [] (S128 a b 0) .ret (Rv 4 d), ee] [] = .ok (.ret (iA d) [], [ee], [LZ W [] 72 0 (S128 a b 0) .ret (Rv 4 d), MatchK [] [] [] { t := [(0, .str a), (1, .str b), (5, iA 0)], h := [] } (S128 a b 0)]) := by kernel_rfl
theorem q128_0 (W : World) (a b : List UInt8) (d : Int) : sF W { lp := true, tl := [70] } 72 [.str a, .str b] [] 100000 [ee, .loopM [] [] (S128 a b 0) (.exit 0) (E128 a b), ee, cR (iA d) [], ee] [] = .ok (.ret (iA d) [], [ee], [MZ W 70 [iA (↑a.length : Int), iA (↑b.length : Int)] [] (.ret (iA d) []), LZ W [] 72 0 (S128 a b 0) (.exit 0) (E128 a b), MatchK [] [] [] { t := [(0, .str a), (1, .str b), (5, iA 0)], h := [] } (S128 a b 0)]) := by kernel_rfl
theorem call119 : callable Tryz.prog 63 = true := by kernel_rfl
theorem call121 : callable Tryz.prog 65 = true := by kernel_rfl
theorem call122 : callable Tryz.prog 66 = true := by kernel_rfl
theorem call126 : callable Tryz.prog 70 = true := by kernel_rfl
theorem call128 : callable Tryz.prog 72 = true := by kernel_rfl
theorem call120 : callable Tryz.prog 64 = true := by kernel_rfl
theorem call127 : callable Tryz.prog 71 = true := by kernel_rfl
theorem call158 : callable Tryz.prog 94 = true := by kernel_rfl
theorem call81 : callable Tryz.prog 36 = true := by kernel_rfl
theorem call83 : callable Tryz.prog 38 = true := by kernel_rfl
theorem call123 : callable Tryz.prog 67 = true := by kernel_rfl
theorem call124 : callable Tryz.prog 68 = true := by kernel_rfl
theorem call129 : callable Tryz.prog 73 = true := by kernel_rfl
theorem ints119 (W : World) (a b : Int) : Pure Tryz.prog W 63 [iA a, iA b] (iA (cmpI a b)) := by
  have hs1 : (!decide (a = a)) = false := by simp
  have hs2 : (!decide (b = b)) = false := by simp
  by_cases h1 : a < b
  · exact goB (by unfold cmpI; rw [if_pos h1] <;> rfl) rfl (mut_of_sfun mixedz call119 rfl (p119_3 W a b) Fb8_z2)
  by_cases h2 : b < a
  · exact goB (by unfold cmpI; rw [if_neg h1, if_pos h2] <;> rfl) rfl (mut_of_sfun mixedz call119 rfl (p119_4 W a b) Fb8_z2)
  · exact goB (by unfold cmpI; rw [if_neg h1, if_neg h2] <;> rfl) rfl (mut_of_sfun mixedz call119 rfl (p119_5 W a b) Fb8_z2)
theorem ints121 (W : World) (a b : Int) : Pure Tryz.prog W 65 [iA a, iA b] (iA (cmpI a b)) := by
  have hs1 : (!decide (a = a)) = false := by simp
  have hs2 : (!decide (b = b)) = false := by simp
  by_cases h1 : a < b
  · exact goB (by unfold cmpI; rw [if_pos h1] <;> rfl) rfl (mut_of_sfun mixedz call121 rfl (p121_3 W a b) Fb8_z2)
  by_cases h2 : b < a
  · exact goB (by unfold cmpI; rw [if_neg h1, if_pos h2] <;> rfl) rfl (mut_of_sfun mixedz call121 rfl (p121_4 W a b) Fb8_z2)
  · exact goB (by unfold cmpI; rw [if_neg h1, if_neg h2] <;> rfl) rfl (mut_of_sfun mixedz call121 rfl (p121_5 W a b) Fb8_z2)
theorem ints126 (W : World) (a b : Int) : Pure Tryz.prog W 70 [iA a, iA b] (iA (cmpI a b)) := by
  by_cases h1 : a < b
  · exact goB (by unfold cmpI; rw [if_pos h1] <;> rfl) rfl (mut_of_sfun mixedz call126 rfl (p126_0 W a b) Fb8_z2)
  by_cases h2 : b < a
  · exact goB (by unfold cmpI; rw [if_neg h1, if_pos h2] <;> rfl) rfl (mut_of_sfun mixedz call126 rfl (p126_1 W a b) Fb8_z2)
  · exact goB (by unfold cmpI; rw [if_neg h1, if_neg h2] <;> rfl) rfl (mut_of_sfun mixedz call126 rfl (p126_2 W a b) Fb8_z2)
theorem rank120 (W : World) (h : JH) (l : List JV) : Pure Tryz.prog W 64 [encV (.mk h l)] (iA (rankV h.kind)) := by
  by_cases k0 : h.kind = 0
  case pos => exact goB (by rw [show rankV h.kind = 0 by unfold rankV; rw [if_pos k0]] <;> rfl) rfl (mut_of_sfun mixedz call120 rfl (p120_0 W h l) Fb8_z2)
  by_cases k3 : h.kind = 3
  case pos => exact goB (by rw [show rankV h.kind = 1 by unfold rankV; rw [if_neg k0, if_pos k3]] <;> rfl) rfl (mut_of_sfun mixedz call120 rfl (p120_1 W h l) Fb8_z2)
  by_cases k4 : h.kind = 4
  case pos => exact goB (by rw [show rankV h.kind = 2 by unfold rankV; rw [if_neg k0, if_neg k3, if_pos k4]] <;> rfl) rfl (mut_of_sfun mixedz call120 rfl (p120_2 W h l) Fb8_z2)
  by_cases k6 : h.kind = 6
  case pos => exact goB (by rw [show rankV h.kind = 3 by unfold rankV; rw [if_neg k0, if_neg k3, if_neg k4, if_pos k6]] <;> rfl) rfl (mut_of_sfun mixedz call120 rfl (p120_3 W h l) Fb8_z2)
  by_cases k5 : h.kind = 5
  case pos => exact goB (by rw [show rankV h.kind = 4 by unfold rankV; rw [if_neg k0, if_neg k3, if_neg k4, if_neg k6, if_pos k5]] <;> rfl) rfl (mut_of_sfun mixedz call120 rfl (p120_4 W h l) Fb8_z2)
  by_cases k1 : h.kind = 1
  case pos => exact goB (by rw [show rankV h.kind = 5 by unfold rankV; rw [if_neg k0, if_neg k3, if_neg k4, if_neg k6, if_neg k5, if_pos k1]] <;> rfl) rfl (mut_of_sfun mixedz call120 rfl (p120_5 W h l) Fb8_z2)
  by_cases k2 : h.kind = 2
  case pos => exact goB (by rw [show rankV h.kind = 6 by unfold rankV; rw [if_neg k0, if_neg k3, if_neg k4, if_neg k6, if_neg k5, if_neg k1, if_pos k2]] <;> rfl) rfl (mut_of_sfun mixedz call120 rfl (p120_6 W h l) Fb8_z2)
  exact goB (by rw [show rankV h.kind = -1 by unfold rankV; rw [if_neg k0, if_neg k3, if_neg k4, if_neg k6, if_neg k5, if_neg k1, if_neg k2]] <;> rfl) rfl (mut_of_sfun mixedz call120 rfl (p120_7 W h l) Fb8_z2)
theorem rank127 (W : World) (h : JH) (l : List JV) : Pure Tryz.prog W 71 [encV (.mk h l)] (iA (rankV h.kind)) := by
  by_cases k0 : h.kind = 0
  case pos => exact goB (by rw [show rankV h.kind = 0 by unfold rankV; rw [if_pos k0]] <;> rfl) rfl (mut_of_sfun mixedz call127 rfl (p127_0 W h l) Fb8_z2)
  by_cases k3 : h.kind = 3
  case pos => exact goB (by rw [show rankV h.kind = 1 by unfold rankV; rw [if_neg k0, if_pos k3]] <;> rfl) rfl (mut_of_sfun mixedz call127 rfl (p127_1 W h l) Fb8_z2)
  by_cases k4 : h.kind = 4
  case pos => exact goB (by rw [show rankV h.kind = 2 by unfold rankV; rw [if_neg k0, if_neg k3, if_pos k4]] <;> rfl) rfl (mut_of_sfun mixedz call127 rfl (p127_2 W h l) Fb8_z2)
  by_cases k6 : h.kind = 6
  case pos => exact goB (by rw [show rankV h.kind = 3 by unfold rankV; rw [if_neg k0, if_neg k3, if_neg k4, if_pos k6]] <;> rfl) rfl (mut_of_sfun mixedz call127 rfl (p127_3 W h l) Fb8_z2)
  by_cases k5 : h.kind = 5
  case pos => exact goB (by rw [show rankV h.kind = 4 by unfold rankV; rw [if_neg k0, if_neg k3, if_neg k4, if_neg k6, if_pos k5]] <;> rfl) rfl (mut_of_sfun mixedz call127 rfl (p127_4 W h l) Fb8_z2)
  by_cases k1 : h.kind = 1
  case pos => exact goB (by rw [show rankV h.kind = 5 by unfold rankV; rw [if_neg k0, if_neg k3, if_neg k4, if_neg k6, if_neg k5, if_pos k1]] <;> rfl) rfl (mut_of_sfun mixedz call127 rfl (p127_5 W h l) Fb8_z2)
  by_cases k2 : h.kind = 2
  case pos => exact goB (by rw [show rankV h.kind = 6 by unfold rankV; rw [if_neg k0, if_neg k3, if_neg k4, if_neg k6, if_neg k5, if_neg k1, if_pos k2]] <;> rfl) rfl (mut_of_sfun mixedz call127 rfl (p127_6 W h l) Fb8_z2)
  exact goB (by rw [show rankV h.kind = -1 by unfold rankV; rw [if_neg k0, if_neg k3, if_neg k4, if_neg k6, if_neg k5, if_neg k1, if_neg k2]] <;> rfl) rfl (mut_of_sfun mixedz call127 rfl (p127_7 W h l) Fb8_z2)
theorem u8_lt (x y : UInt8) : (x.toNat : Int) < (y.toNat : Int) ↔ x < y := by rw [UInt8.lt_iff_toNat_lt]; omega
theorem cmpB_cons (x y : UInt8) (a b : List UInt8) : Lib.compareBytes (x :: a) (y :: b) = if x < y then -1 else if y < x then 1 else Lib.compareBytes a b := by rw [Lib.compareBytes]
theorem cmpB_less : ∀ a b : List UInt8, (Op.bytesLess a b = true ↔ Lib.compareBytes a b = -1) ∧ (Lib.compareBytes a b = 0 ↔ a = b) ∧ (Lib.compareBytes a b = -1 ∨ Lib.compareBytes a b = 0 ∨ Lib.compareBytes a b = 1)
  | [], [] => by simp [Op.bytesLess, Lib.compareBytes]
  | [], y :: b => by simp [Op.bytesLess, Lib.compareBytes]
  | x :: a, [] => by simp [Op.bytesLess, Lib.compareBytes]
  | x :: a, y :: b => by
    obtain ⟨i1, i2, i3⟩ := cmpB_less a b
    rw [cmpB_cons]
    by_cases h1 : x < y
    · have hne : ¬ x = y := by rintro rfl; exact absurd h1 (UInt8.lt_irrefl x)
      simp [Op.bytesLess, h1, hne]
    by_cases h2 : y < x
    · have hne : ¬ x = y := by rintro rfl; exact absurd h2 (UInt8.lt_irrefl x)
      simp [Op.bytesLess, h1, h2, hne]
    · have he : x = y := UInt8.le_antisymm (UInt8.not_lt.1 h2) (UInt8.not_lt.1 h1)
      subst he
      rw [if_neg h1, if_neg h2]
      exact ⟨by simp [Op.bytesLess, i1], by simp [i2], i3⟩
theorem str122 (W : World) (a b : List UInt8) : Pure Tryz.prog W 66 [.str a, .str b] (iA (Lib.compareBytes a b)) := by
  have hs1 : (!decide (a = a)) = false := by simp
  have hs2 : (!decide (b = b)) = false := by simp
  obtain ⟨i1, i2, i3⟩ := cmpB_less a b
  by_cases h1 : Op.bytesLess a b = true
  · exact goB (by rw [i1.1 h1] <;> rfl) rfl (mut_of_sfun mixedz call122 rfl (p122_3 W a b) Fb8_z2)
  have h1' : Op.bytesLess a b = false := by simpa using h1
  have hne : ¬ Lib.compareBytes a b = -1 := fun e => h1 (i1.2 e)
  by_cases h2 : a = b
  · have hb1 : (!(Op.bytesLess a b || decide (a = b))) = false := by simp [h2]
    exact goB (by rw [i2.2 h2] <;> rfl) rfl (mut_of_sfun mixedz call122 rfl (p122_5 W a b) Fb8_z2)
  · have hb1 : (!(Op.bytesLess a b || decide (a = b))) = true := by simp [h1', h2]
    have h0 : ¬ Lib.compareBytes a b = 0 := fun e => h2 (i2.1 e)
    exact goB (by rw [show Lib.compareBytes a b = 1 by omega] <;> rfl) rfl (mut_of_sfun mixedz call122 rfl (p122_4 W a b) Fb8_z2)
theorem cmpB_end {a b : List UInt8} {i : Nat} (h1 : i ≤ a.length) (h2 : i ≤ b.length) (h : i = a.length ∨ i = b.length) : Lib.compareBytes (a.drop i) (b.drop i) = cmpI a.length b.length := by
  rcases h with h | h
  · rw [h, List.drop_length]
    unfold cmpI
    cases e : b.drop a.length with
    | nil => have := congrArg List.length e; simp only [List.length_drop, List.length_nil] at this; rw [if_neg (by omega), if_neg (by omega)]; rfl
    | cons y r => have := congrArg List.length e; simp only [List.length_drop, List.length_cons] at this; rw [if_pos (by omega)]; rfl
  · rw [h, List.drop_length]
    unfold cmpI
    cases e : a.drop b.length with
    | nil => have := congrArg List.length e; simp only [List.length_drop, List.length_nil] at this; rw [if_neg (by omega), if_neg (by omega)]; rfl
    | cons y r => have := congrArg List.length e; simp only [List.length_drop, List.length_cons] at this; rw [if_neg (by omega), if_pos (by omega)]; rfl
theorem cmpLs_end (f : JV → JV → Int) {a b : List JV} {i : Nat} (h1 : i ≤ a.length) (h2 : i ≤ b.length) (h : i = a.length ∨ i = b.length) : cmpLs f (a.drop i) (b.drop i) = cmpI a.length b.length := by
  rcases h with h | h
  · rw [h, List.drop_length]
    unfold cmpI
    cases e : b.drop a.length with
    | nil => have := congrArg List.length e; simp only [List.length_drop, List.length_nil] at this; rw [if_neg (by omega), if_neg (by omega)]; rfl
    | cons y r => have := congrArg List.length e; simp only [List.length_drop, List.length_cons] at this; rw [if_pos (by omega)]; rfl
  · rw [h, List.drop_length]
    unfold cmpI
    cases e : a.drop b.length with
    | nil => have := congrArg List.length e; simp only [List.length_drop, List.length_nil] at this; rw [if_neg (by omega), if_neg (by omega)]; rfl
    | cons y r => have := congrArg List.length e; simp only [List.length_drop, List.length_cons] at this; rw [if_neg (by omega), if_pos (by omega)]; rfl
theorem cmpMs_end (f : JV → JV → Int) {a b : List (List UInt8 × JV)} {i : Nat} (h1 : i ≤ a.length) (h2 : i ≤ b.length) (h : i = a.length ∨ i = b.length) : cmpMs f (a.drop i) (b.drop i) = cmpI a.length b.length := by
  rcases h with h | h
  · rw [h, List.drop_length]
    unfold cmpI
    cases e : b.drop a.length with
    | nil => have := congrArg List.length e; simp only [List.length_drop, List.length_nil] at this; rw [if_neg (by omega), if_neg (by omega)]; rfl
    | cons y r => have := congrArg List.length e; simp only [List.length_drop, List.length_cons] at this; rw [if_pos (by omega)]; rfl
  · rw [h, List.drop_length]
    unfold cmpI
    cases e : a.drop b.length with
    | nil => have := congrArg List.length e; simp only [List.length_drop, List.length_nil] at this; rw [if_neg (by omega), if_neg (by omega)]; rfl
    | cons y r => have := congrArg List.length e; simp only [List.length_drop, List.length_cons] at this; rw [if_neg (by omega), if_pos (by omega)]; rfl
theorem cmpLs_step (f : JV → JV → Int) {a b : List JV} {i : Nat} {x y : JV} (hx : a[i]? = some x) (hy : b[i]? = some y) : cmpLs f (a.drop i) (b.drop i) = if f x y = 0 then cmpLs f (a.drop (i + 1)) (b.drop (i + 1)) else f x y := by
  rw [drop_get hx, drop_get hy, cmpLs]
theorem cmpMs_step (f : JV → JV → Int) {a b : List (List UInt8 × JV)} {i : Nat} {x y : List UInt8} {v w : JV} (hx : a[i]? = some (x, v)) (hy : b[i]? = some (y, w)) : cmpMs f (a.drop i) (b.drop i) = if Lib.compareBytes x y = 0 then (if f v w = 0 then cmpMs f (a.drop (i + 1)) (b.drop (i + 1)) else f v w) else Lib.compareBytes x y := by
  rw [drop_get hx, drop_get hy, cmpMs]
theorem mems_at {v : JV} {i : Nat} {x : List UInt8} {w : JV} (h1 : v.names[i]? = some x) (h2 : v.items[i]? = some w) : v.mems[i]? = some (x, w) := by
  unfold JV.mems; rw [List.getElem?_zip_eq_some]; exact ⟨h1, h2⟩
section
variable (W : World)
theorem loop128 (a b : List UInt8) (hl : a.length ≤ 2 ^ 50) : ∀ (k i : Nat), a.length - i = k → i ≤ a.length → i ≤ b.length →
    (LoopC Tryz.prog W [] (nslots Tryz.prog 72) (loopOf Tryz.prog 72 0) (S128 a b i) .ret (Rv 4 (Lib.compareBytes (a.drop i) (b.drop i)))) ∨
    (LoopC Tryz.prog W [] (nslots Tryz.prog 72) (loopOf Tryz.prog 72 0) (S128 a b i) (.exit 0) (E128 a b) ∧ Lib.compareBytes (a.drop i) (b.drop i) = cmpI a.length b.length) := by
  intro k
  induction k with
  | zero =>
    intro i hk h1 h2
    have hi : i = a.length := by omega
    right
    refine ⟨loop_last (by simp) (body_of_sbodyM mixedz (b128_4 W a b i) Fb8_z2 [] [] Fb8_z1), cmpB_end h1 h2 (.inl hi)⟩
  | succ k ih =>
    intro i hk h1 h2
    by_cases hb : i < b.length
    case neg => exact .inr ⟨loop_last (by simp) (body_of_sbodyM mixedz (b128_3 W a b i) Fb8_z2 [] [] Fb8_z1), cmpB_end h1 h2 (.inr (by omega))⟩
    obtain ⟨x, hx⟩ := getOf (l := a) (i := i) (by omega)
    obtain ⟨y, hy⟩ := getOf hb
    have hget : a[((i : Int)).toNat]? = some x := by rw [Int.toNat_natCast]; exact hx
    have hget2 : b[((i : Int)).toNat]? = some y := by rw [Int.toNat_natCast]; exact hy
    have hws : IntKind.i64.wrap ((i : Int) + 1) = ((i + 1 : Nat) : Int) := wrap_succ (by omega)
    have e := cmpB_cons x y (a.drop (i + 1)) (b.drop (i + 1))
    rw [← drop_get hx, ← drop_get hy] at e
    by_cases hxy : (x.toNat : Int) < (y.toNat : Int)
    · rw [if_pos ((u8_lt x y).1 hxy)] at e
      rw [e]
      exact .inl (loop_last (by simp) (body_of_sbodyM mixedz (b128_0 W a b i x y) Fb8_z2 [] [] Fb8_z1))
    rw [if_neg (fun h => hxy ((u8_lt x y).2 h))] at e
    by_cases hyx : (y.toNat : Int) < (x.toNat : Int)
    · rw [if_pos ((u8_lt y x).1 hyx)] at e
      rw [e]
      exact .inl (loop_last (by simp) (body_of_sbodyM mixedz (b128_1 W a b i x y) Fb8_z2 [] [] Fb8_z1))
    rw [if_neg (fun h => hyx ((u8_lt y x).2 h))] at e
    rw [e]
    have hbd : BodyC Tryz.prog W [] (nslots Tryz.prog 72) (loopOf Tryz.prog 72 0) (S128 a b i) .normal (S128 a b (i + 1 : Nat)) := body_of_sbodyK mixedz (b128_2 W a b i x y) Fb8_z2 [] [] Fb8_z1
    rcases ih (i + 1) (by omega) (by omega) (by omega) with h | ⟨h, h'⟩
    · exact .inl (loop_next hbd h)
    · exact .inr ⟨loop_next hbd h, h'⟩
theorem texts128 (a b : List UInt8) (hl : a.length ≤ 2 ^ 50) : Pure Tryz.prog W 72 [.str a, .str b] (iA (Lib.compareBytes a b)) := by
  rcases loop128 W a b hl a.length 0 (by simp) (by omega) (by omega) with hlp | ⟨hlp, h2⟩
  · exact pure_of_mut rfl (mut_of_sfun mixedz call128 rfl (p128_0 W a b _) Fb8_z3)
  · have hc := mut_of_pure (by rfl) (ints126 W a.length b.length)
    rw [show Lib.compareBytes a b = cmpI a.length b.length from h2]
    exact pure_of_mut rfl (mut_of_sfun mixedz call128 rfl (q128_0 W a b _) Fb8_z3)
theorem loop123 (f : JV → JV → Int) (a b : List JV) (hl : a.length ≤ 2 ^ 50) (hf : ∀ x ∈ a, ∀ y, Pure Tryz.prog W 36 [encV x, encV y] (iA (f x y))) : ∀ (k i : Nat), a.length - i = k → i ≤ a.length → i ≤ b.length →
    (LoopC Tryz.prog W [] (nslots Tryz.prog 67) (loopOf Tryz.prog 67 0) (S123 a b i) .ret (Rv 6 (cmpLs f (a.drop i) (b.drop i)))) ∨
    (LoopC Tryz.prog W [] (nslots Tryz.prog 67) (loopOf Tryz.prog 67 0) (S123 a b i) (.exit 0) (E123 a b) ∧ a.length ≤ b.length ∧ cmpLs f (a.drop i) (b.drop i) = cmpI a.length b.length) := by
  intro k
  induction k with
  | zero =>
    intro i hk h1 h2
    have hi : i = a.length := by omega
    exact .inr ⟨loop_last (by simp) (body_of_sbodyM mixedz (b123_3 W a b i ⟨0, 0, [], []⟩) Fb8_z2 [] [] Fb8_z1), by omega, cmpLs_end f h1 h2 (.inl hi)⟩
  | succ k ih =>
    intro i hk h1 h2
    obtain ⟨x, hx⟩ := getOf (l := a) (i := i) (by omega)
    have hget : (encVs a)[((i : Int)).toNat]? = some (encV x) := by rw [Int.toNat_natCast]; exact encVs_get hx
    by_cases hb : i < b.length
    case neg =>
      rw [cmpLs_end f h1 h2 (.inr (by omega)), cmpI, if_neg (by omega), if_pos (by omega)]
      obtain ⟨h3, l3⟩ := x
      exact .inl (loop_last (by simp) (body_of_sbodyM mixedz (b123_0 W a b i h3 l3) Fb8_z2 [] [] Fb8_z1))
    obtain ⟨y, hy⟩ := getOf hb
    have hget2 : (encVs b)[((i : Int)).toNat]? = some (encV y) := by rw [Int.toNat_natCast]; exact encVs_get hy
    have hws : IntKind.i64.wrap ((i : Int) + 1) = ((i + 1 : Nat) : Int) := wrap_succ (by omega)
    have hc := mut_of_pure (by simp only [cloL, encV_clo, Bool.and_self]) (hf x (List.mem_of_getElem? hx) y)
    rw [cmpLs_step f hx hy]
    by_cases e : f x y = 0
    · rw [if_pos e]
      have hb1 : (!decide (f x y = 0)) = false := by simp [e]
      have hbd : BodyC Tryz.prog W [] (nslots Tryz.prog 67) (loopOf Tryz.prog 67 0) (S123 a b i) .normal (S123 a b (i + 1 : Nat)) := by
        obtain ⟨h3, l3⟩ := x
        obtain ⟨h4, l4⟩ := y
        exact body_of_sbodyK mixedz (b123_2 W a b i h3 l3 h4 l4 _) Fb8_z2 [] [] Fb8_z1
      rcases ih (i + 1) (by omega) (by omega) (by omega) with h | ⟨h, h'⟩
      · exact .inl (loop_next hbd h)
      · exact .inr ⟨loop_next hbd h, h'⟩
    · rw [if_neg e]
      have hb1 : (!decide (f x y = 0)) = true := by simp [e]
      obtain ⟨h3, l3⟩ := x
      obtain ⟨h4, l4⟩ := y
      exact .inl (loop_last (by simp) (body_of_sbodyM mixedz (b123_1 W a b i h3 l3 h4 l4 _) Fb8_z2 [] [] Fb8_z1))
theorem lists123 (f : JV → JV → Int) (a b : List JV) (hl : a.length ≤ 2 ^ 50) (hf : ∀ x ∈ a, ∀ y, Pure Tryz.prog W 36 [encV x, encV y] (iA (f x y))) : Pure Tryz.prog W 67 [.sl 5 (encVs a) [], .sl 5 (encVs b) [], .val (.func (.func 36) #[] #[])] (iA (cmpLs f a b)) := by
  rcases loop123 W f a b hl hf a.length 0 (by simp) (by omega) (by omega) with hlp | ⟨hlp, h2, h3⟩
  · exact pure_of_mut rfl (mut_of_sfun mixedz call123 rfl (p123_0 W a b _) Fb8_z3)
  · rw [show cmpLs f a b = cmpI a.length b.length from h3, cmpI]
    by_cases h : (a.length : Int) < (b.length : Int)
    · rw [if_pos h]
      exact pure_of_mut rfl (mut_of_sfun mixedz call123 rfl (q123_0 W a b) Fb8_z3)
    · rw [if_neg h, if_neg (by omega)]
      exact pure_of_mut rfl (mut_of_sfun mixedz call123 rfl (q123_1 W a b) Fb8_z3)
section
variable (h : JH) (l : List JV) (h2 : JH) (l2 : List JV)
theorem loop124 (f : JV → JV → Int) (hl : cntV (.mk h l) ≤ 2 ^ 50) (hf : ∀ x ∈ l, ∀ y, Pure Tryz.prog W 36 [encV x, encV y] (iA (f x y))) (m : Nat) (hm : m ≤ (JV.mk h l).mem ∧ m ≤ (JV.mk h2 l2).mem ∧ (m = (JV.mk h l).mem ∨ m = (JV.mk h2 l2).mem)) : ∀ (k i : Nat), m - i = k → i ≤ m →
    (LoopC Tryz.prog W [] (nslots Tryz.prog 68) (loopOf Tryz.prog 68 0) (S124 h l h2 l2 (JV.mk h l).mem (JV.mk h2 l2).mem m i) .ret (Rv 4 (cmpMs f ((JV.mk h l).mems.drop i) ((JV.mk h2 l2).mems.drop i)))) ∨
    (LoopC Tryz.prog W [] (nslots Tryz.prog 68) (loopOf Tryz.prog 68 0) (S124 h l h2 l2 (JV.mk h l).mem (JV.mk h2 l2).mem m i) (.exit 0) (E124 (JV.mk h l).mem (JV.mk h2 l2).mem) ∧ cmpMs f ((JV.mk h l).mems.drop i) ((JV.mk h2 l2).mems.drop i) = cmpI (JV.mk h l).mem (JV.mk h2 l2).mem) := by
  have hcl := cntV_len (.mk h l)
  have a1 := JV.mem_names (.mk h l)
  have a2 := JV.mem_items (.mk h l)
  have a3 := JV.mem_names (.mk h2 l2)
  have a4 := JV.mem_items (.mk h2 l2)
  simp only [JV.names, JV.items, JV.hd] at hcl a1 a2 a3 a4
  have b1 := JV.mems_len (.mk h l)
  have b2 := JV.mems_len (.mk h2 l2)
  intro k
  induction k with
  | zero =>
    intro i hk h1
    have hi : i = m := by omega
    refine .inr ⟨loop_last (by simp) (body_of_sbodyM mixedz (b124_3 W h l h2 l2 _ _ m i) Fb8_z2 [] [] Fb8_z1), ?_⟩
    rw [cmpMs_end f (by omega) (by omega) (by omega), b1, b2]
  | succ k ih =>
    intro i hk h1
    obtain ⟨x, hx⟩ := getOf (l := h.names) (i := i) (by omega)
    obtain ⟨y, hy⟩ := getOf (l := h2.names) (i := i) (by omega)
    obtain ⟨v, hv⟩ := getOf (l := l) (i := i) (by omega)
    obtain ⟨w, hw⟩ := getOf (l := l2) (i := i) (by omega)
    have hget : (List.map AV.str h.names)[((i : Int)).toNat]? = some (AV.str x) := by rw [Int.toNat_natCast]; exact strs_get hx
    have hget2 : (List.map AV.str h2.names)[((i : Int)).toNat]? = some (AV.str y) := by rw [Int.toNat_natCast]; exact strs_get hy
    have hget3 : (encVs l)[((i : Int)).toNat]? = some (encV v) := by rw [Int.toNat_natCast]; exact encVs_get hv
    have hget4 : (encVs l2)[((i : Int)).toNat]? = some (encV w) := by rw [Int.toNat_natCast]; exact encVs_get hw
    have hws : IntKind.i64.wrap ((i : Int) + 1) = ((i + 1 : Nat) : Int) := wrap_succ (by omega)
    have hc1 := mut_of_pure (by rfl) (str122 W x y)
    have hc2 := mut_of_pure (by simp only [cloL, encV_clo, Bool.and_self]) (hf v (List.mem_of_getElem? hv) w)
    rw [cmpMs_step f (mems_at (v := .mk h l) hx hv) (mems_at (v := .mk h2 l2) hy hw)]
    by_cases e1 : Lib.compareBytes x y = 0
    case neg =>
      rw [if_neg e1]
      have hb1 : (!decide (Lib.compareBytes x y = 0)) = true := by simp [e1]
      exact .inl (loop_last (by simp) (body_of_sbodyM mixedz (b124_0 W h l h2 l2 _ _ m i x y _) Fb8_z2 [] [] Fb8_z1))
    rw [if_pos e1]
    have hb1 : (!decide (Lib.compareBytes x y = 0)) = false := by simp [e1]
    by_cases e : f v w = 0
    · rw [if_pos e]
      have hb2 : (!decide (f v w = 0)) = false := by simp [e]
      have hbd : BodyC Tryz.prog W [] (nslots Tryz.prog 68) (loopOf Tryz.prog 68 0) (S124 h l h2 l2 (JV.mk h l).mem (JV.mk h2 l2).mem m i) .normal (S124 h l h2 l2 (JV.mk h l).mem (JV.mk h2 l2).mem m (i + 1 : Nat)) := by
        obtain ⟨h3, l3⟩ := v
        obtain ⟨h4, l4⟩ := w
        exact body_of_sbodyK mixedz (b124_2 W h l h2 l2 _ _ m i x y h3 l3 h4 l4 (Lib.compareBytes x y) (f (.mk h3 l3) (.mk h4 l4))) Fb8_z2 [] [] Fb8_z1
      rcases ih (i + 1) (by omega) (by omega) with h | ⟨h, h'⟩
      · exact .inl (loop_next hbd h)
      · exact .inr ⟨loop_next hbd h, h'⟩
    · rw [if_neg e]
      have hb2 : (!decide (f v w = 0)) = true := by simp [e]
      obtain ⟨h3, l3⟩ := v
      obtain ⟨h4, l4⟩ := w
      exact .inl (loop_last (by simp) (body_of_sbodyM mixedz (b124_1 W h l h2 l2 _ _ m i x y h3 l3 h4 l4 (Lib.compareBytes x y) (f (.mk h3 l3) (.mk h4 l4))) Fb8_z2 [] [] Fb8_z1))
theorem members124 (f : JV → JV → Int) (hl : cntV (.mk h l) ≤ 2 ^ 50) (hf : ∀ x ∈ l, ∀ y, Pure Tryz.prog W 36 [encV x, encV y] (iA (f x y))) : Pure Tryz.prog W 68 [encV (.mk h l), encV (.mk h2 l2)] (iA (cmpMs f (JV.mk h l).mems (JV.mk h2 l2).mems)) := by
  have hme := mem_min h l
  have hme2 := mem_min h2 l2
  obtain ⟨m, hm, hmk⟩ : ∃ m : Nat, (m ≤ (JV.mk h l).mem ∧ m ≤ (JV.mk h2 l2).mem ∧ (m = (JV.mk h l).mem ∨ m = (JV.mk h2 l2).mem)) ∧ (if (((JV.mk h2 l2).mem : Nat) : Int) < (((JV.mk h l).mem : Nat) : Int) then (((JV.mk h2 l2).mem : Nat) : Int) else (((JV.mk h l).mem : Nat) : Int)) = ((m : Nat) : Int) := by
    by_cases q : (JV.mk h2 l2).mem < (JV.mk h l).mem
    · exact ⟨_, ⟨by omega, Nat.le_refl _, .inr rfl⟩, by rw [if_pos (by omega)]⟩
    · exact ⟨_, ⟨Nat.le_refl _, by omega, .inl rfl⟩, by rw [if_neg (by omega)]⟩
  rcases loop124 W h l h2 l2 f hl hf m hm m 0 (by simp) (by omega) with hlp | ⟨hlp, h3⟩
  · exact pure_of_mut rfl (mut_of_sfun mixedz call124 rfl (p124_0 W h l h2 l2 _ _ m _) Fb8_z3)
  · have hc := mut_of_pure (by rfl) (ints119 W (JV.mk h l).mem (JV.mk h2 l2).mem)
    rw [show cmpMs f (JV.mk h l).mems (JV.mk h2 l2).mems = _ from h3]
    exact pure_of_mut rfl (mut_of_sfun mixedz call124 rfl (q124_0 W h l h2 l2 _ _ m _) Fb8_z3)
end
theorem cmpF_mk (n : Nat) (h : JH) (l : List JV) (h2 : JH) (l2 : List JV) : cmpF (n + 1) (.mk h l) (.mk h2 l2) = if cmpI (rankV h.kind) (rankV h2.kind) = 0 then (if h.kind = 3 then cmpI h.int h2.int else if h.kind = 4 then Lib.compareBytes h.text h2.text else if h.kind = 5 then cmpLs (cmpF n) l l2 else if h.kind = 6 then cmpMs (cmpF n) (JV.mk h l).mems (JV.mk h2 l2).mems else 0) else cmpI (rankV h.kind) (rankV h2.kind) := rfl
theorem compare81 : ∀ (n : Nat) (a b : JV), sizeV a < n → cntV a ≤ 2 ^ 30 → Pure Tryz.prog W 36 [encV a, encV b] (iA (cmpF n a b))
  | 0, a, b, h, _ => by omega
  | n + 1, .mk h l, .mk h2 l2, hn, hcn => by
    have hcnl := cntV_len (.mk h l)
    simp only [JV.names, JV.hd, JV.items] at hcnl
    have hf : ∀ x ∈ l, ∀ y, Pure Tryz.prog W 36 [encV x, encV y] (iA (cmpF n x y)) := fun x hx y => compare81 n x y (by
      obtain ⟨i, hi⟩ := List.getElem?_of_mem hx
      have := sizeV_item (v := .mk h l) hi; omega) (by
      obtain ⟨i, hi⟩ := List.getElem?_of_mem hx
      have := cntV_item (v := .mk h l) hi; omega)
    have hc1 := mut_of_pure (by rfl) (rank120 W h l)
    have hc2 := mut_of_pure (by rfl) (rank120 W h2 l2)
    have hc3 := mut_of_pure (by rfl) (ints119 W (rankV h.kind) (rankV h2.kind))
    rw [cmpF_mk]
    by_cases e0 : cmpI (rankV h.kind) (rankV h2.kind) = 0
    case neg =>
      rw [if_neg e0]
      have hb1 : (!decide (cmpI (rankV h.kind) (rankV h2.kind) = 0)) = true := by simp [e0]
      exact pure_of_mut rfl (mut_of_sfun mixedz call81 rfl (p81_0 W h l h2 l2 _) Fb8_z2)
    rw [if_pos e0]
    have hb1 : (!decide (cmpI (rankV h.kind) (rankV h2.kind) = 0)) = false := by simp [e0]
    by_cases k3 : h.kind = 3
    · rw [if_pos k3]
      have hc := mut_of_pure (by rfl) (ints121 W h.int h2.int)
      exact pure_of_mut rfl (mut_of_sfun mixedz call81 rfl (p81_1 W h l h2 l2 _ _) Fb8_z2)
    rw [if_neg k3]
    by_cases k4 : h.kind = 4
    · rw [if_pos k4]
      have hc := mut_of_pure (by rfl) (str122 W h.text h2.text)
      exact pure_of_mut rfl (mut_of_sfun mixedz call81 rfl (p81_2 W h l h2 l2 _ _) Fb8_z2)
    rw [if_neg k4]
    by_cases k5 : h.kind = 5
    · rw [if_pos k5]
      have hc := mut_of_pure (by rfl) (lists123 W (cmpF n) l l2 (by omega) hf)
      exact pure_of_mut rfl (mut_of_sfun mixedz call81 rfl (p81_3 W h l h2 l2 _ _) Fb8_z2)
    rw [if_neg k5]
    by_cases k6 : h.kind = 6
    · rw [if_pos k6]
      have hc := mut_of_pure (by rfl) (members124 W h l h2 l2 (cmpF n) (by omega) hf)
      exact pure_of_mut rfl (mut_of_sfun mixedz call81 rfl (p81_4 W h l h2 l2 _ _) Fb8_z2)
    rw [if_neg k6]
    exact pure_of_mut rfl (mut_of_sfun mixedz call81 rfl (p81_5 W h l h2 l2 _) Fb8_z2)
end
end Go.Ac

