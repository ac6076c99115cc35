/- What is proved: contracts of functions of this translation, walked; their plain meaning. No condition beyond those that each theorem names. -/
import Derived.Test.YtkpppapgbplokaaGreatDoorHFb5
import Derived.Test.YtkpppapgbplokaaGreatDoorPc
set_option linter.all false
namespace Go.Ac
open Go Go.Proofs
set_option maxRecDepth 10000
set_option maxHeartbeats 1000000
def S42 (a b : List (List UInt8)) (i : Nat) : AS := ⟨[(0, .sl 1 (a.map AV.str) []), (1, .sl 1 (b.map AV.str) []), (5, iA i)], []⟩
def S29 (a b : List (List UInt8)) (m : Int) (i : Nat) : AS := ⟨[(0, .sl 1 (a.map AV.str) []), (1, .sl 1 (b.map AV.str) []), (10, iA m), (11, iA i)], []⟩
def E0 : AS := ⟨[], []⟩
def R4f : AS := ⟨[(4, bA false)], []⟩
def u8A (n : Int) : AV := .val (.int .u8 n)
def S48 (s : List UInt8) (n lo hi : Int) (i : Nat) : AS := ⟨[(0, .str s), (4, iA n), (5, u8A lo), (6, u8A hi), (7, iA i)], []⟩
def E48 (n : Int) : AS := ⟨[(4, iA n)], []⟩
def R2i (n : Int) : AS := ⟨[(2, iA n)], []⟩
def R2b (b : Bool) : AS := ⟨[(2, bA b)], []⟩
def S35 (s : List UInt8) : AS := ⟨[(0, .str s)], []⟩
def S36 (l : List (List UInt8)) (s : List UInt8) (i : Nat) : AS := ⟨[(0, .sl 1 (l.map AV.str) []), (1, .str s), (5, iA i)], []⟩
def R4t : AS := ⟨[(4, bA true)], []⟩
theorem p42_0 (W : World) (a b : List (List UInt8)) : sF W { lp := true } 42 [.sl 1 (a.map AV.str) [], .sl 1 (b.map AV.str) []] [] 100000 [ee, .loopM [] [] (S42 a b 0) (.exit 0) E0, ee] [] = .ok (.ret (bA true) [], [ee], [LZ W [] 42 0 (S42 a b 0) (.exit 0) E0, MatchK [] [] [] { t := [(0, sL 1 (List.map AV.str a)), (1, sL 1 (List.map AV.str b)), (5, iA 0)], h := [] } (S42 a b 0)]) := by kernel_rfl
theorem r42_0 (W : World) (a b : List (List UInt8)) : sF W { lp := true } 42 [.sl 1 (a.map AV.str) [], .sl 1 (b.map AV.str) []] [] 100000 [ee, .loopM [] [] (S42 a b 0) .ret R4f, ee] [] = .ok (.ret (bA false) [], [ee], [LZ W [] 42 0 (S42 a b 0) .ret R4f, MatchK [] [] [] { t := [(0, sL 1 (List.map AV.str a)), (1, sL 1 (List.map AV.str b)), (5, iA 0)], h := [] } (S42 a b 0)]) := by kernel_rfl
theorem p29_0 (W : World) (a b : List (List UInt8)) (m : Int) : sF W { lp := true } 29 [.sl 1 (a.map AV.str) [], .sl 1 (b.map AV.str) []] [] 100000 [ee, .loopM [] [] (S29 a b m 0) (.exit 0) E0, ee] [] = .ok (.ret (bA true) [], [ee], [LZ W [] 29 0 (S29 a b m 0) (.exit 0) E0, MatchK [] [] [] { t := [(0, sL 1 (List.map AV.str a)), (1, sL 1 (List.map AV.str b)), (10, iA (if (↑(List.map AV.str b).length : Int) < (↑(List.map AV.str a).length : Int) then (↑(List.map AV.str b).length : Int) else (↑(List.map AV.str a).length : Int))), (11, iA 0)], h := [] } (S29 a b m 0)]) := by kernel_rfl
theorem r29_0 (W : World) (a b : List (List UInt8)) (m : Int) : sF W { lp := true } 29 [.sl 1 (a.map AV.str) [], .sl 1 (b.map AV.str) []] [] 100000 [ee, .loopM [] [] (S29 a b m 0) .ret R4f, ee] [] = .ok (.ret (bA false) [], [ee], [LZ W [] 29 0 (S29 a b m 0) .ret R4f, MatchK [] [] [] { t := [(0, sL 1 (List.map AV.str a)), (1, sL 1 (List.map AV.str b)), (10, iA (if (↑(List.map AV.str b).length : Int) < (↑(List.map AV.str a).length : Int) then (↑(List.map AV.str b).length : Int) else (↑(List.map AV.str a).length : Int))), (11, iA 0)], h := [] } (S29 a b m 0)]) := by kernel_rfl
theorem p48_0 (W : World) (s : List UInt8) : sF W { lp := true } 48 [.str s] [] 100000 [bt, ee] [] = .ok (.ret (iA 0) [], [ee], [decide (s = []) = true]) := by kernel_rfl
theorem p48_1 (W : World) (s : List UInt8) (c : UInt8) : sF W { lp := true } 48 [.str s] [] 100000 [bf, aE 1, Ans.byt (some c), bt, ee] [] = .ok (.ret (iA 1) [], [ee], [decide ((↑c.toNat : Int) < 128) = true, s[0]? = some c, decide (s = []) = false]) := by kernel_rfl
theorem p48_2 (W : World) (s : List UInt8) (n lo hi m : Int) (c : UInt8) : sF W { lp := true } 48 [.str s] [] 100000 [bf, aE 1, Ans.byt (some c), bf, bt, bt, bt, bt, ee, .loopM [] [] (S48 s n lo hi 1) (.exit 1) (E48 m), ee] [] = .ok (.ret (iA m) [], [ee], LZ W [] 48 0 (S48 s n lo hi 1) (.exit 1) (E48 m) :: MatchK [] [] [] { t := [(0, .str s), (4, iA 2), (5, .val (Value.int IntKind.u8 128)), (6, .val (Value.int IntKind.u8 191)), (7, iA 1)], h := [] } (S48 s n lo hi 1) :: (decide ((↑c.toNat : Int) ≤ 223) = true) :: (d3 (decide (194 ≤ (↑c.toNat : Int)) = true) [decide ((↑c.toNat : Int) < 128) = false, s[0]? = some c, decide (s = []) = false])) := by kernel_rfl
theorem p48_4 (W : World) (s : List UInt8) (n lo hi m : Int) (c : UInt8) : sF W { lp := true } 48 [.str s] [] 100000 [bf, aE 1, Ans.byt (some c), bf, bt, bt, bt, bf, bt, bt, bt, bt, bt, bf, ee, .loopM [] [] (S48 s n lo hi 1) (.exit 1) (E48 m), ee] [] = .ok (.ret (iA m) [], [ee], LZ W [] 48 0 (S48 s n lo hi 1) (.exit 1) (E48 m) :: MatchK [] [] [] { t := [(0, .str s), (4, iA 3), (5, .val (Value.int IntKind.u8 160)), (6, .val (Value.int IntKind.u8 191)), (7, iA 1)], h := [] } (S48 s n lo hi 1) :: (decide ((↑c.toNat : Int) = 237) = false) :: (decide ((↑c.toNat : Int) = 224) = true) :: (decide ((↑c.toNat : Int) ≤ 239) = true) :: (d3 (decide (224 ≤ (↑c.toNat : Int)) = true) ((decide ((↑c.toNat : Int) ≤ 223) = false) :: (d3 (decide (194 ≤ (↑c.toNat : Int)) = true) [decide ((↑c.toNat : Int) < 128) = false, s[0]? = some c, decide (s = []) = false])))) := by kernel_rfl
theorem p48_5 (W : World) (s : List UInt8) (n lo hi m : Int) (c : UInt8) : sF W { lp := true } 48 [.str s] [] 100000 [bf, aE 1, Ans.byt (some c), bf, bt, bt, bt, bf, bt, bt, bt, bt, bf, bt, ee, .loopM [] [] (S48 s n lo hi 1) (.exit 1) (E48 m), ee] [] = .ok (.ret (iA m) [], [ee], LZ W [] 48 0 (S48 s n lo hi 1) (.exit 1) (E48 m) :: MatchK [] [] [] { t := [(0, .str s), (4, iA 3), (5, .val (Value.int IntKind.u8 128)), (6, .val (Value.int IntKind.u8 159)), (7, iA 1)], h := [] } (S48 s n lo hi 1) :: (decide ((↑c.toNat : Int) = 237) = true) :: (decide ((↑c.toNat : Int) = 224) = false) :: (decide ((↑c.toNat : Int) ≤ 239) = true) :: (d3 (decide (224 ≤ (↑c.toNat : Int)) = true) ((decide ((↑c.toNat : Int) ≤ 223) = false) :: (d3 (decide (194 ≤ (↑c.toNat : Int)) = true) [decide ((↑c.toNat : Int) < 128) = false, s[0]? = some c, decide (s = []) = false])))) := by kernel_rfl
theorem p48_6 (W : World) (s : List UInt8) (n lo hi m : Int) (c : UInt8) : sF W { lp := true } 48 [.str s] [] 100000 [bf, aE 1, Ans.byt (some c), bf, bt, bt, bt, bf, bt, bt, bt, bt, bf, bf, ee, .loopM [] [] (S48 s n lo hi 1) (.exit 1) (E48 m), ee] [] = .ok (.ret (iA m) [], [ee], LZ W [] 48 0 (S48 s n lo hi 1) (.exit 1) (E48 m) :: MatchK [] [] [] { t := [(0, .str s), (4, iA 3), (5, .val (Value.int IntKind.u8 128)), (6, .val (Value.int IntKind.u8 191)), (7, iA 1)], h := [] } (S48 s n lo hi 1) :: (decide ((↑c.toNat : Int) = 237) = false) :: (decide ((↑c.toNat : Int) = 224) = false) :: (decide ((↑c.toNat : Int) ≤ 239) = true) :: (d3 (decide (224 ≤ (↑c.toNat : Int)) = true) ((decide ((↑c.toNat : Int) ≤ 223) = false) :: (d3 (decide (194 ≤ (↑c.toNat : Int)) = true) [decide ((↑c.toNat : Int) < 128) = false, s[0]? = some c, decide (s = []) = false])))) := by kernel_rfl
theorem p48_8 (W : World) (s : List UInt8) (n lo hi m : Int) (c : UInt8) : sF W { lp := true } 48 [.str s] [] 100000 [bf, aE 1, Ans.byt (some c), bf, bt, bt, bt, bf, bt, bt, bt, bf, bt, bt, bt, bt, bt, bf, ee, .loopM [] [] (S48 s n lo hi 1) (.exit 1) (E48 m), ee] [] = .ok (.ret (iA m) [], [ee], LZ W [] 48 0 (S48 s n lo hi 1) (.exit 1) (E48 m) :: MatchK [] [] [] { t := [(0, .str s), (4, iA 4), (5, .val (Value.int IntKind.u8 144)), (6, .val (Value.int IntKind.u8 191)), (7, iA 1)], h := [] } (S48 s n lo hi 1) :: (decide ((↑c.toNat : Int) = 244) = false) :: (decide ((↑c.toNat : Int) = 240) = true) :: (decide ((↑c.toNat : Int) ≤ 244) = true) :: (d3 (decide (240 ≤ (↑c.toNat : Int)) = true) ((decide ((↑c.toNat : Int) ≤ 239) = false) :: (d3 (decide (224 ≤ (↑c.toNat : Int)) = true) ((decide ((↑c.toNat : Int) ≤ 223) = false) :: (d3 (decide (194 ≤ (↑c.toNat : Int)) = true) [decide ((↑c.toNat : Int) < 128) = false, s[0]? = some c, decide (s = []) = false])))))) := by kernel_rfl
theorem p48_9 (W : World) (s : List UInt8) (n lo hi m : Int) (c : UInt8) : sF W { lp := true } 48 [.str s] [] 100000 [bf, aE 1, Ans.byt (some c), bf, bt, bt, bt, bf, bt, bt, bt, bf, bt, bt, bt, bt, bf, bt, ee, .loopM [] [] (S48 s n lo hi 1) (.exit 1) (E48 m), ee] [] = .ok (.ret (iA m) [], [ee], LZ W [] 48 0 (S48 s n lo hi 1) (.exit 1) (E48 m) :: MatchK [] [] [] { t := [(0, .str s), (4, iA 4), (5, .val (Value.int IntKind.u8 128)), (6, .val (Value.int IntKind.u8 143)), (7, iA 1)], h := [] } (S48 s n lo hi 1) :: (decide ((↑c.toNat : Int) = 244) = true) :: (decide ((↑c.toNat : Int) = 240) = false) :: (decide ((↑c.toNat : Int) ≤ 244) = true) :: (d3 (decide (240 ≤ (↑c.toNat : Int)) = true) ((decide ((↑c.toNat : Int) ≤ 239) = false) :: (d3 (decide (224 ≤ (↑c.toNat : Int)) = true) ((decide ((↑c.toNat : Int) ≤ 223) = false) :: (d3 (decide (194 ≤ (↑c.toNat : Int)) = true) [decide ((↑c.toNat : Int) < 128) = false, s[0]? = some c, decide (s = []) = false])))))) := by kernel_rfl
theorem p48_10 (W : World) (s : List UInt8) (n lo hi m : Int) (c : UInt8) : sF W { lp := true } 48 [.str s] [] 100000 [bf, aE 1, Ans.byt (some c), bf, bt, bt, bt, bf, bt, bt, bt, bf, bt, bt, bt, bt, bf, bf, ee, .loopM [] [] (S48 s n lo hi 1) (.exit 1) (E48 m), ee] [] = .ok (.ret (iA m) [], [ee], LZ W [] 48 0 (S48 s n lo hi 1) (.exit 1) (E48 m) :: MatchK [] [] [] { t := [(0, .str s), (4, iA 4), (5, .val (Value.int IntKind.u8 128)), (6, .val (Value.int IntKind.u8 191)), (7, iA 1)], h := [] } (S48 s n lo hi 1) :: (decide ((↑c.toNat : Int) = 244) = false) :: (decide ((↑c.toNat : Int) = 240) = false) :: (decide ((↑c.toNat : Int) ≤ 244) = true) :: (d3 (decide (240 ≤ (↑c.toNat : Int)) = true) ((decide ((↑c.toNat : Int) ≤ 239) = false) :: (d3 (decide (224 ≤ (↑c.toNat : Int)) = true) ((decide ((↑c.toNat : Int) ≤ 223) = false) :: (d3 (decide (194 ≤ (↑c.toNat : Int)) = true) [decide ((↑c.toNat : Int) < 128) = false, s[0]? = some c, decide (s = []) = false])))))) := by kernel_rfl
theorem p48_11 (W : World) (s : List UInt8) (c : UInt8) : sF W { lp := true } 48 [.str s] [] 100000 [bf, aE 1, Ans.byt (some c), bf, bt, bt, bt, bf, bt, bt, bt, bf, bt, bt, bt, bf, ee] [] = .ok (.ret (iA 0) [], [ee], (decide ((↑c.toNat : Int) ≤ 244) = false) :: (d3 (decide (240 ≤ (↑c.toNat : Int)) = true) ((decide ((↑c.toNat : Int) ≤ 239) = false) :: (d3 (decide (224 ≤ (↑c.toNat : Int)) = true) ((decide ((↑c.toNat : Int) ≤ 223) = false) :: (d3 (decide (194 ≤ (↑c.toNat : Int)) = true) [decide ((↑c.toNat : Int) < 128) = false, s[0]? = some c, decide (s = []) = false])))))) := by kernel_rfl
theorem p48_34 (W : World) (s : List UInt8) (c : UInt8) : sF W { lp := true } 48 [.str s] [] 100000 [bf, aE 1, Ans.byt (some c), bf, bf, bf, bf, aE 1, bf, bf, bf, aE 1, bf, bf, bf, ee] [] = .ok (.ret (iA 0) [], [aE 9999999], d3 (decide (240 ≤ (↑c.toNat : Int)) = false) (d3 (decide (224 ≤ (↑c.toNat : Int)) = false) (d3 (decide (194 ≤ (↑c.toNat : Int)) = false) [decide ((↑c.toNat : Int) < 128) = false, s[0]? = some c, decide (s = []) = false]))) := by kernel_rfl
theorem q48_2 (W : World) (s : List UInt8) (n lo hi m : Int) (c : UInt8) : sF W { lp := true } 48 [.str s] [] 100000 [bf, aE 1, Ans.byt (some c), bf, bt, bt, bt, bt, ee, .loopM [] [] (S48 s n lo hi 1) .ret (R2i m), ee] [] = .ok (.ret (iA m) [], [ee], LZ W [] 48 0 (S48 s n lo hi 1) .ret (R2i m) :: MatchK [] [] [] { t := [(0, .str s), (4, iA 2), (5, .val (Value.int IntKind.u8 128)), (6, .val (Value.int IntKind.u8 191)), (7, iA 1)], h := [] } (S48 s n lo hi 1) :: (decide ((↑c.toNat : Int) ≤ 223) = true) :: (d3 (decide (194 ≤ (↑c.toNat : Int)) = true) [decide ((↑c.toNat : Int) < 128) = false, s[0]? = some c, decide (s = []) = false])) := by kernel_rfl
theorem q48_4 (W : World) (s : List UInt8) (n lo hi m : Int) (c : UInt8) : sF W { lp := true } 48 [.str s] [] 100000 [bf, aE 1, Ans.byt (some c), bf, bt, bt, bt, bf, bt, bt, bt, bt, bt, bf, ee, .loopM [] [] (S48 s n lo hi 1) .ret (R2i m), ee] [] = .ok (.ret (iA m) [], [ee], LZ W [] 48 0 (S48 s n lo hi 1) .ret (R2i m) :: MatchK [] [] [] { t := [(0, .str s), (4, iA 3), (5, .val (Value.int IntKind.u8 160)), (6, .val (Value.int IntKind.u8 191)), (7, iA 1)], h := [] } (S48 s n lo hi 1) :: (decide ((↑c.toNat : Int) = 237) = false) :: (decide ((↑c.toNat : Int) = 224) = true) :: (decide ((↑c.toNat : Int) ≤ 239) = true) :: (d3 (decide (224 ≤ (↑c.toNat : Int)) = true) ((decide ((↑c.toNat : Int) ≤ 223) = false) :: (d3 (decide (194 ≤ (↑c.toNat : Int)) = true) [decide ((↑c.toNat : Int) < 128) = false, s[0]? = some c, decide (s = []) = false])))) := by kernel_rfl
theorem q48_5 (W : World) (s : List UInt8) (n lo hi m : Int) (c : UInt8) : sF W { lp := true } 48 [.str s] [] 100000 [bf, aE 1, Ans.byt (some c), bf, bt, bt, bt, bf, bt, bt, bt, bt, bf, bt, ee, .loopM [] [] (S48 s n lo hi 1) .ret (R2i m), ee] [] = .ok (.ret (iA m) [], [ee], LZ W [] 48 0 (S48 s n lo hi 1) .ret (R2i m) :: MatchK [] [] [] { t := [(0, .str s), (4, iA 3), (5, .val (Value.int IntKind.u8 128)), (6, .val (Value.int IntKind.u8 159)), (7, iA 1)], h := [] } (S48 s n lo hi 1) :: (decide ((↑c.toNat : Int) = 237) = true) :: (decide ((↑c.toNat : Int) = 224) = false) :: (decide ((↑c.toNat : Int) ≤ 239) = true) :: (d3 (decide (224 ≤ (↑c.toNat : Int)) = true) ((decide ((↑c.toNat : Int) ≤ 223) = false) :: (d3 (decide (194 ≤ (↑c.toNat : Int)) = true) [decide ((↑c.toNat : Int) < 128) = false, s[0]? = some c, decide (s = []) = false])))) := by kernel_rfl
theorem q48_6 (W : World) (s : List UInt8) (n lo hi m : Int) (c : UInt8) : sF W { lp := true } 48 [.str s] [] 100000 [bf, aE 1, Ans.byt (some c), bf, bt, bt, bt, bf, bt, bt, bt, bt, bf, bf, ee, .loopM [] [] (S48 s n lo hi 1) .ret (R2i m), ee] [] = .ok (.ret (iA m) [], [ee], LZ W [] 48 0 (S48 s n lo hi 1) .ret (R2i m) :: MatchK [] [] [] { t := [(0, .str s), (4, iA 3), (5, .val (Value.int IntKind.u8 128)), (6, .val (Value.int IntKind.u8 191)), (7, iA 1)], h := [] } (S48 s n lo hi 1) :: (decide ((↑c.toNat : Int) = 237) = false) :: (decide ((↑c.toNat : Int) = 224) = false) :: (decide ((↑c.toNat : Int) ≤ 239) = true) :: (d3 (decide (224 ≤ (↑c.toNat : Int)) = true) ((decide ((↑c.toNat : Int) ≤ 223) = false) :: (d3 (decide (194 ≤ (↑c.toNat : Int)) = true) [decide ((↑c.toNat : Int) < 128) = false, s[0]? = some c, decide (s = []) = false])))) := by kernel_rfl
theorem q48_8 (W : World) (s : List UInt8) (n lo hi m : Int) (c : UInt8) : sF W { lp := true } 48 [.str s] [] 100000 [bf, aE 1, Ans.byt (some c), bf, bt, bt, bt, bf, bt, bt, bt, bf, bt, bt, bt, bt, bt, bf, ee, .loopM [] [] (S48 s n lo hi 1) .ret (R2i m), ee] [] = .ok (.ret (iA m) [], [ee], LZ W [] 48 0 (S48 s n lo hi 1) .ret (R2i m) :: MatchK [] [] [] { t := [(0, .str s), (4, iA 4), (5, .val (Value.int IntKind.u8 144)), (6, .val (Value.int IntKind.u8 191)), (7, iA 1)], h := [] } (S48 s n lo hi 1) :: (decide ((↑c.toNat : Int) = 244) = false) :: (decide ((↑c.toNat : Int) = 240) = true) :: (decide ((↑c.toNat : Int) ≤ 244) = true) :: (d3 (decide (240 ≤ (↑c.toNat : Int)) = true) ((decide ((↑c.toNat : Int) ≤ 239) = false) :: (d3 (decide (224 ≤ (↑c.toNat : Int)) = true) ((decide ((↑c.toNat : Int) ≤ 223) = false) :: (d3 (decide (194 ≤ (↑c.toNat : Int)) = true) [decide ((↑c.toNat : Int) < 128) = false, s[0]? = some c, decide (s = []) = false])))))) := by kernel_rfl
theorem q48_9 (W : World) (s : List UInt8) (n lo hi m : Int) (c : UInt8) : sF W { lp := true } 48 [.str s] [] 100000 [bf, aE 1, Ans.byt (some c), bf, bt, bt, bt, bf, bt, bt, bt, bf, bt, bt, bt, bt, bf, bt, ee, .loopM [] [] (S48 s n lo hi 1) .ret (R2i m), ee] [] = .ok (.ret (iA m) [], [ee], LZ W [] 48 0 (S48 s n lo hi 1) .ret (R2i m) :: MatchK [] [] [] { t := [(0, .str s), (4, iA 4), (5, .val (Value.int IntKind.u8 128)), (6, .val (Value.int IntKind.u8 143)), (7, iA 1)], h := [] } (S48 s n lo hi 1) :: (decide ((↑c.toNat : Int) = 244) = true) :: (decide ((↑c.toNat : Int) = 240) = false) :: (decide ((↑c.toNat : Int) ≤ 244) = true) :: (d3 (decide (240 ≤ (↑c.toNat : Int)) = true) ((decide ((↑c.toNat : Int) ≤ 239) = false) :: (d3 (decide (224 ≤ (↑c.toNat : Int)) = true) ((decide ((↑c.toNat : Int) ≤ 223) = false) :: (d3 (decide (194 ≤ (↑c.toNat : Int)) = true) [decide ((↑c.toNat : Int) < 128) = false, s[0]? = some c, decide (s = []) = false])))))) := by kernel_rfl
theorem q48_10 (W : World) (s : List UInt8) (n lo hi m : Int) (c : UInt8) : sF W { lp := true } 48 [.str s] [] 100000 [bf, aE 1, Ans.byt (some c), bf, bt, bt, bt, bf, bt, bt, bt, bf, bt, bt, bt, bt, bf, bf, ee, .loopM [] [] (S48 s n lo hi 1) .ret (R2i m), ee] [] = .ok (.ret (iA m) [], [ee], LZ W [] 48 0 (S48 s n lo hi 1) .ret (R2i m) :: MatchK [] [] [] { t := [(0, .str s), (4, iA 4), (5, .val (Value.int IntKind.u8 128)), (6, .val (Value.int IntKind.u8 191)), (7, iA 1)], h := [] } (S48 s n lo hi 1) :: (decide ((↑c.toNat : Int) = 244) = false) :: (decide ((↑c.toNat : Int) = 240) = false) :: (decide ((↑c.toNat : Int) ≤ 244) = true) :: (d3 (decide (240 ≤ (↑c.toNat : Int)) = true) ((decide ((↑c.toNat : Int) ≤ 239) = false) :: (d3 (decide (224 ≤ (↑c.toNat : Int)) = true) ((decide ((↑c.toNat : Int) ≤ 223) = false) :: (d3 (decide (194 ≤ (↑c.toNat : Int)) = true) [decide ((↑c.toNat : Int) < 128) = false, s[0]? = some c, decide (s = []) = false])))))) := by kernel_rfl
theorem p35_0 (W : World) (s : List UInt8) : sF W { lp := true } 35 [.str s] [] 100000 [ee, .loopM [] [] (S35 s) (.exit 0) E0, ee] [] = .ok (.ret (bA true) [], [ee], [LZ W [] 35 0 (S35 s) (.exit 0) E0, MatchK [] [] [] { t := [(0, .str s)], h := [] } (S35 s)]) := by kernel_rfl
theorem q35_0 (W : World) (s : List UInt8) : sF W { lp := true } 35 [.str s] [] 100000 [ee, .loopM [] [] (S35 s) .ret (R2b false), ee] [] = .ok (.ret (bA false) [], [ee], [LZ W [] 35 0 (S35 s) .ret (R2b false), MatchK [] [] [] { t := [(0, .str s)], h := [] } (S35 s)]) := by kernel_rfl
theorem p34_0 (W : World) (h : JH) (l : List JV) : sF W { lp := true } 34 [eV h l] [] 100000 [bt, bt, bt, bt, bt, bt, bt, bt, bt, bt, ee] [] = .ok (.ret (bA false) [], [aE 9999999], d6 ((!decide (h.int = 0)) = true) (d4 ((!decide (h.kind = 3)) = true) [])) := by kernel_rfl
theorem p34_1 (W : World) (h : JH) (l : List JV) : sF W { lp := true } 34 [eV h l] [] 100000 [bt, bt, bt, bt, bf, bf, bf, bf, bt, bt, bt, bf, bt, bf, bt, ee] [] = .ok (.ret (bA false) [], [ee], ((!decide (h.text = [])) = true) :: ((!decide (h.int = 0)) = false) :: ((!decide (h.kind = 4)) = true) :: ((!decide (h.int = 0)) = false) :: (d3 ((!decide (h.kind = 4)) = true) (d4 ((!decide (h.int = 0)) = false) (d4 ((!decide (h.kind = 3)) = true) [])))) := by kernel_rfl
theorem p34_2 (W : World) (h : JH) (l : List JV) : sF W { lp := true } 34 [eV h l] [] 100000 [bt, bt, bt, bt, bf, bf, bf, bf, bt, bt, bt, bf, bt, bf, bf, bt, ee] [] = .ok (.ret (bA (decide ((↑(List.map AV.str h.names).length : Int) = (↑(encVs l).length : Int)))) [], [ee], (decide (h.kind = 6) = true) :: ((!decide (h.text = [])) = false) :: ((!decide (h.int = 0)) = false) :: ((!decide (h.kind = 4)) = true) :: ((!decide (h.int = 0)) = false) :: (d3 ((!decide (h.kind = 4)) = true) (d4 ((!decide (h.int = 0)) = false) (d4 ((!decide (h.kind = 3)) = true) [])))) := by kernel_rfl
theorem p34_3 (W : World) (h : JH) (l : List JV) : sF W { lp := true } 34 [eV h l] [] 100000 [bt, bt, bt, bt, bf, bf, bf, bf, bt, bt, bt, bf, bt, bf, bf, bf, bt, bt, bt, bt, bt, bt, bt, bt, bt, bt, bt, ee] [] = .ok (.ret (bA true) [], [ee], (decide ((↑(List.map AV.str h.names).length : Int) = 0) = true) :: (decide (h.kind = 5) = true) :: (decide ((↑(List.map AV.str h.names).length : Int) = 0) = true) :: (d4 (decide (h.kind = 5) = true) (d4 (decide ((↑(List.map AV.str h.names).length : Int) = 0) = true) ((decide (h.kind = 6) = false) :: ((!decide (h.text = [])) = false) :: ((!decide (h.int = 0)) = false) :: ((!decide (h.kind = 4)) = true) :: ((!decide (h.int = 0)) = false) :: (d3 ((!decide (h.kind = 4)) = true) (d4 ((!decide (h.int = 0)) = false) (d4 ((!decide (h.kind = 3)) = true) []))))))) := by kernel_rfl
theorem p34_4 (W : World) (h : JH) (l : List JV) : sF W { lp := true } 34 [eV h l] [] 100000 [bt, bt, bt, bt, bf, bf, bf, bf, bt, bt, bt, bf, bt, bf, bf, bf, bt, bt, bt, bt, bf, bf, bf, bf, bt, bf, bt, ee] [] = .ok (.ret (bA (decide ((↑(encVs l).length : Int) = 0))) [], [ee], (decide ((↑(List.map AV.str h.names).length : Int) = 0) = true) :: (decide (h.kind = 5) = false) :: (decide ((↑(List.map AV.str h.names).length : Int) = 0) = true) :: (d4 (decide (h.kind = 5) = false) (d4 (decide ((↑(List.map AV.str h.names).length : Int) = 0) = true) ((decide (h.kind = 6) = false) :: ((!decide (h.text = [])) = false) :: ((!decide (h.int = 0)) = false) :: ((!decide (h.kind = 4)) = true) :: ((!decide (h.int = 0)) = false) :: (d3 ((!decide (h.kind = 4)) = true) (d4 ((!decide (h.int = 0)) = false) (d4 ((!decide (h.kind = 3)) = true) []))))))) := by kernel_rfl
theorem p34_5 (W : World) (h : JH) (l : List JV) : sF W { lp := true } 34 [eV h l] [] 100000 [bt, bt, bt, bt, bf, bf, bf, bf, bt, bt, bt, bf, bt, bf, bf, bf, bf, bf, bf, bf, bf, bf, ee] [] = .ok (.ret (bA false) [], [ee], d6 (decide ((↑(List.map AV.str h.names).length : Int) = 0) = false) ((decide (h.kind = 6) = false) :: ((!decide (h.text = [])) = false) :: ((!decide (h.int = 0)) = false) :: ((!decide (h.kind = 4)) = true) :: ((!decide (h.int = 0)) = false) :: (d3 ((!decide (h.kind = 4)) = true) (d4 ((!decide (h.int = 0)) = false) (d4 ((!decide (h.kind = 3)) = true) []))))) := by kernel_rfl
theorem p34_6 (W : World) (h : JH) (l : List JV) : sF W { lp := true } 34 [eV h l] [] 100000 [bt, bt, bt, bt, bf, bf, bf, bf, bf, bf, bf, bf, bf, bf, aE 1, bt, ee] [] = .ok (.ret (bA (decide ((↑(List.map AV.str h.names).length : Int) = (↑(encVs l).length : Int)))) [], [ee], (decide (h.kind = 6) = true) :: ((!decide (h.int = 0)) = false) :: ((!decide (h.kind = 4)) = false) :: ((!decide (h.int = 0)) = false) :: (d3 ((!decide (h.kind = 4)) = false) (d4 ((!decide (h.int = 0)) = false) (d4 ((!decide (h.kind = 3)) = true) [])))) := by kernel_rfl
theorem p34_7 (W : World) (h : JH) (l : List JV) : sF W { lp := true } 34 [eV h l] [] 100000 [bt, bt, bt, bt, bf, bf, bf, bf, bf, bf, bf, bf, bf, bf, aE 1, bf, bt, bt, bt, bt, bt, bt, bt, bt, bt, bt, bt, ee] [] = .ok (.ret (bA true) [], [ee], (decide ((↑(List.map AV.str h.names).length : Int) = 0) = true) :: (decide (h.kind = 5) = true) :: (decide ((↑(List.map AV.str h.names).length : Int) = 0) = true) :: (d4 (decide (h.kind = 5) = true) (d4 (decide ((↑(List.map AV.str h.names).length : Int) = 0) = true) ((decide (h.kind = 6) = false) :: ((!decide (h.int = 0)) = false) :: ((!decide (h.kind = 4)) = false) :: ((!decide (h.int = 0)) = false) :: (d3 ((!decide (h.kind = 4)) = false) (d4 ((!decide (h.int = 0)) = false) (d4 ((!decide (h.kind = 3)) = true) []))))))) := by kernel_rfl
theorem p34_8 (W : World) (h : JH) (l : List JV) : sF W { lp := true } 34 [eV h l] [] 100000 [bt, bt, bt, bt, bf, bf, bf, bf, bf, bf, bf, bf, bf, bf, aE 1, bf, bt, bt, bt, bt, bf, bf, bf, bf, bt, bf, bt, ee] [] = .ok (.ret (bA (decide ((↑(encVs l).length : Int) = 0))) [], [ee], (decide ((↑(List.map AV.str h.names).length : Int) = 0) = true) :: (decide (h.kind = 5) = false) :: (decide ((↑(List.map AV.str h.names).length : Int) = 0) = true) :: (d4 (decide (h.kind = 5) = false) (d4 (decide ((↑(List.map AV.str h.names).length : Int) = 0) = true) ((decide (h.kind = 6) = false) :: ((!decide (h.int = 0)) = false) :: ((!decide (h.kind = 4)) = false) :: ((!decide (h.int = 0)) = false) :: (d3 ((!decide (h.kind = 4)) = false) (d4 ((!decide (h.int = 0)) = false) (d4 ((!decide (h.kind = 3)) = true) []))))))) := by kernel_rfl
theorem p34_9 (W : World) (h : JH) (l : List JV) : sF W { lp := true } 34 [eV h l] [] 100000 [bt, bt, bt, bt, bf, bf, bf, bf, bf, bf, bf, bf, bf, bf, aE 1, bf, bf, bf, bf, bf, bf, bf, ee] [] = .ok (.ret (bA false) [], [ee], d6 (decide ((↑(List.map AV.str h.names).length : Int) = 0) = false) ((decide (h.kind = 6) = false) :: ((!decide (h.int = 0)) = false) :: ((!decide (h.kind = 4)) = false) :: ((!decide (h.int = 0)) = false) :: (d3 ((!decide (h.kind = 4)) = false) (d4 ((!decide (h.int = 0)) = false) (d4 ((!decide (h.kind = 3)) = true) []))))) := by kernel_rfl
theorem p34_10 (W : World) (h : JH) (l : List JV) : sF W { lp := true } 34 [eV h l] [] 100000 [bf, bf, bf, bf, aE 4, bt, bt, bt, aE 1, bt, aE 1, bt, ee] [] = .ok (.ret (bA false) [], [ee], ((!decide (h.text = [])) = true) :: (d4 ((!decide (h.kind = 4)) = true) (d4 ((!decide (h.kind = 3)) = false) []))) := by kernel_rfl
theorem p34_11 (W : World) (h : JH) (l : List JV) : sF W { lp := true } 34 [eV h l] [] 100000 [bf, bf, bf, bf, aE 4, bt, bt, bt, aE 1, bt, aE 1, bf, bt, ee] [] = .ok (.ret (bA (decide ((↑(List.map AV.str h.names).length : Int) = (↑(encVs l).length : Int)))) [], [ee], (decide (h.kind = 6) = true) :: ((!decide (h.text = [])) = false) :: (d4 ((!decide (h.kind = 4)) = true) (d4 ((!decide (h.kind = 3)) = false) []))) := by kernel_rfl
theorem p34_12 (W : World) (h : JH) (l : List JV) : sF W { lp := true } 34 [eV h l] [] 100000 [bf, bf, bf, bf, aE 4, bt, bt, bt, aE 1, bt, aE 1, bf, bf, bt, bt, bt, bt, bt, bt, bt, bt, bt, bt, bt, ee] [] = .ok (.ret (bA true) [], [ee], (decide ((↑(List.map AV.str h.names).length : Int) = 0) = true) :: (decide (h.kind = 5) = true) :: (decide ((↑(List.map AV.str h.names).length : Int) = 0) = true) :: (d4 (decide (h.kind = 5) = true) (d4 (decide ((↑(List.map AV.str h.names).length : Int) = 0) = true) ((decide (h.kind = 6) = false) :: ((!decide (h.text = [])) = false) :: (d4 ((!decide (h.kind = 4)) = true) (d4 ((!decide (h.kind = 3)) = false) [])))))) := by kernel_rfl
theorem p34_13 (W : World) (h : JH) (l : List JV) : sF W { lp := true } 34 [eV h l] [] 100000 [bf, bf, bf, bf, aE 4, bt, bt, bt, aE 1, bt, aE 1, bf, bf, bt, bt, bt, bt, bf, bf, bf, bf, bt, bf, bt, ee] [] = .ok (.ret (bA (decide ((↑(encVs l).length : Int) = 0))) [], [ee], (decide ((↑(List.map AV.str h.names).length : Int) = 0) = true) :: (decide (h.kind = 5) = false) :: (decide ((↑(List.map AV.str h.names).length : Int) = 0) = true) :: (d4 (decide (h.kind = 5) = false) (d4 (decide ((↑(List.map AV.str h.names).length : Int) = 0) = true) ((decide (h.kind = 6) = false) :: ((!decide (h.text = [])) = false) :: (d4 ((!decide (h.kind = 4)) = true) (d4 ((!decide (h.kind = 3)) = false) [])))))) := by kernel_rfl
theorem p34_14 (W : World) (h : JH) (l : List JV) : sF W { lp := true } 34 [eV h l] [] 100000 [bf, bf, bf, bf, aE 4, bt, bt, bt, aE 1, bt, aE 1, bf, bf, bf, bf, bf, bf, bf, bf, ee] [] = .ok (.ret (bA false) [], [ee], d6 (decide ((↑(List.map AV.str h.names).length : Int) = 0) = false) ((decide (h.kind = 6) = false) :: ((!decide (h.text = [])) = false) :: (d4 ((!decide (h.kind = 4)) = true) (d4 ((!decide (h.kind = 3)) = false) [])))) := by kernel_rfl
theorem p36_0 (W : World) (l : List (List UInt8)) (s : List UInt8) : sF W { lp := true } 36 [.sl 1 (l.map AV.str) [], .str s] [] 100000 [ee, .loopM [] [] (S36 l s 0) (.exit 0) E0, ee] [] = .ok (.ret (bA false) [], [ee], [LZ W [] 36 0 (S36 l s 0) (.exit 0) E0, MatchK [] [] [] { t := [(0, sL 1 (List.map AV.str l)), (1, .str s), (5, iA 0)], h := [] } (S36 l s 0)]) := by kernel_rfl
theorem q36_0 (W : World) (l : List (List UInt8)) (s : List UInt8) : sF W { lp := true } 36 [.sl 1 (l.map AV.str) [], .str s] [] 100000 [ee, .loopM [] [] (S36 l s 0) .ret R4t, ee] [] = .ok (.ret (bA true) [], [ee], [LZ W [] 36 0 (S36 l s 0) .ret R4t, MatchK [] [] [] { t := [(0, sL 1 (List.map AV.str l)), (1, .str s), (5, iA 0)], h := [] } (S36 l s 0)]) := by kernel_rfl
theorem b42_0 (W : World) (a b : List (List UInt8)) (x y : List UInt8) (i : Nat) : sQ W { lp := true } 42 0 [] [0, 1, 4, 5] (S42 a b i) [bt, bt, bt, bt, bt, bt, aE 1, oS (.str x), aE 1, oS (.str y), bt, ee] = .ok ((.ret, { t := [(0, sL 1 (List.map AV.str a)), (1, sL 1 (List.map AV.str b)), (4, bA false), (5, iA (↑i : Int))], h := [] }), [ee], ((!decide (x = y)) = true) :: ((List.map AV.str b)[(↑i : Int).toNat]? = some (AV.str y)) :: ((List.map AV.str a)[(↑i : Int).toNat]? = some (AV.str x)) :: (decide ((↑i : Int) < (↑(List.map AV.str b).length : Int)) = true) :: (decide ((↑i : Int) < (↑(List.map AV.str a).length : Int)) = true) :: (d4 (decide ((↑i : Int) < (↑(List.map AV.str a).length : Int)) = true) [])) := by kernel_rfl
theorem b42_1 (W : World) (a b : List (List UInt8)) (x y : List UInt8) (i : Nat) : sQ W { lp := true } 42 0 [] [0, 1, 4, 5] (S42 a b i) [bt, bt, bt, bt, bt, bt, aE 1, oS (.str x), aE 1, oS (.str y), bf, ee] = .ok ((.normal, { t := [(0, sL 1 (List.map AV.str a)), (1, sL 1 (List.map AV.str b)), (5, iA (IntKind.i64.wrap ((↑i : Int) + 1)))], h := [] }), [ee], ((!decide (x = y)) = false) :: ((List.map AV.str b)[(↑i : Int).toNat]? = some (AV.str y)) :: ((List.map AV.str a)[(↑i : Int).toNat]? = some (AV.str x)) :: (decide ((↑i : Int) < (↑(List.map AV.str b).length : Int)) = true) :: (decide ((↑i : Int) < (↑(List.map AV.str a).length : Int)) = true) :: (d4 (decide ((↑i : Int) < (↑(List.map AV.str a).length : Int)) = true) [])) := by kernel_rfl
theorem b42_2 (W : World) (a b : List (List UInt8)) (i : Nat) : sQ W { lp := true } 42 0 [] [0, 1, 4, 5] (S42 a b i) [bt, bt, bt, bt, bt, bf, ee] = .ok ((.exit 0, { t := [(0, sL 1 (List.map AV.str a)), (1, sL 1 (List.map AV.str b)), (5, iA (↑i : Int))], h := [] }), [ee], (decide ((↑i : Int) < (↑(List.map AV.str b).length : Int)) = false) :: (decide ((↑i : Int) < (↑(List.map AV.str a).length : Int)) = true) :: (d4 (decide ((↑i : Int) < (↑(List.map AV.str a).length : Int)) = true) [])) := by kernel_rfl
theorem b42_3 (W : World) (a b : List (List UInt8)) (i : Nat) : sQ W { lp := true } 42 0 [] [0, 1, 4, 5] (S42 a b i) [bf, bf, bf, bf, bf, ee] = .ok ((.exit 0, { t := [(0, sL 1 (List.map AV.str a)), (1, sL 1 (List.map AV.str b)), (5, iA (↑i : Int))], h := [] }), [aE 9999999], (decide ((↑i : Int) < (↑(List.map AV.str a).length : Int)) = false) :: (d4 (decide ((↑i : Int) < (↑(List.map AV.str a).length : Int)) = false) [])) := by kernel_rfl
theorem b29_0 (W : World) (a b : List (List UInt8)) (x y : List UInt8) (i : Nat) (m : Int) : sQ W { lp := true } 29 0 [] [0, 1, 4, 10, 11] (S29 a b m i) [bt, aE 1, oS (.str x), aE 1, oS (.str y), bt, ee] = .ok ((.ret, { t := [(0, sL 1 (List.map AV.str a)), (1, sL 1 (List.map AV.str b)), (4, bA false), (10, iA m), (11, iA (↑i : Int))], h := [] }), [ee], [(!decide (x = y)) = true, (List.map AV.str b)[(↑i : Int).toNat]? = some (AV.str y), (List.map AV.str a)[(↑i : Int).toNat]? = some (AV.str x), decide ((↑i : Int) < m) = true]) := by kernel_rfl
theorem b29_1 (W : World) (a b : List (List UInt8)) (x y : List UInt8) (i : Nat) (m : Int) : sQ W { lp := true } 29 0 [] [0, 1, 4, 10, 11] (S29 a b m i) [bt, aE 1, oS (.str x), aE 1, oS (.str y), bf, ee] = .ok ((.normal, { t := [(0, sL 1 (List.map AV.str a)), (1, sL 1 (List.map AV.str b)), (10, iA m), (11, iA (IntKind.i64.wrap ((↑i : Int) + 1)))], h := [] }), [ee], [(!decide (x = y)) = false, (List.map AV.str b)[(↑i : Int).toNat]? = some (AV.str y), (List.map AV.str a)[(↑i : Int).toNat]? = some (AV.str x), decide ((↑i : Int) < m) = true]) := by kernel_rfl
theorem b29_2 (W : World) (a b : List (List UInt8)) (i : Nat) (m : Int) : sQ W { lp := true } 29 0 [] [0, 1, 4, 10, 11] (S29 a b m i) [bf, ee] = .ok ((.exit 0, { t := [(0, sL 1 (List.map AV.str a)), (1, sL 1 (List.map AV.str b)), (10, iA m), (11, iA (↑i : Int))], h := [] }), [ee], [decide ((↑i : Int) < m) = false]) := by kernel_rfl
theorem b48_0 (W : World) (s : List UInt8) (n lo hi : Int) (i : Nat) : sQ W { lp := true } 48 0 [] [0, 2, 4, 5, 6, 7] (S48 s n lo hi i) [bt, bt, ee] = .ok ((.ret, { t := [(0, .str s), (2, iA (-1)), (4, iA n), (5, .val (Value.int IntKind.u8 lo)), (6, .val (Value.int IntKind.u8 hi)), (7, iA (↑i : Int))], h := [] }), [ee], [decide ((↑i : Int) = (↑s.length : Int)) = true, decide ((↑i : Int) < n) = true]) := by kernel_rfl
theorem b48_1 (W : World) (s : List UInt8) (n lo hi : Int) (i : Nat) (x : UInt8) : sQ W { lp := true } 48 0 [] [0, 2, 4, 5, 6, 7] (S48 s n lo hi i) [bt, bf, aE 1, Ans.byt (some x), bt, bt, bt, bt, bt, bt, ee] = .ok ((.ret, { t := [(0, .str s), (2, iA 0), (4, iA n), (5, .val (Value.int IntKind.u8 lo)), (6, .val (Value.int IntKind.u8 hi)), (7, iA (↑i : Int))], h := [] }), [aE 9999999], d6 (decide ((↑x.toNat : Int) < lo) = true) [s[(↑i : Int).toNat]? = some x, decide ((↑i : Int) = (↑s.length : Int)) = false, decide ((↑i : Int) < n) = true]) := by kernel_rfl
theorem b48_2 (W : World) (s : List UInt8) (n lo hi : Int) (i : Nat) (x : UInt8) : sQ W { lp := true } 48 0 [] [0, 2, 4, 5, 6, 7] (S48 s n lo hi i) [bt, bf, aE 1, Ans.byt (some x), bf, bf, bf, aE 1, Ans.byt (some x), bf, bf, bf, bt, ee] = .ok ((.ret, { t := [(0, .str s), (2, iA 0), (4, iA n), (5, .val (Value.int IntKind.u8 lo)), (6, .val (Value.int IntKind.u8 hi)), (7, iA (↑i : Int))], h := [] }), [ee], (decide (hi < (↑x.toNat : Int)) = true) :: (d3 (decide ((↑x.toNat : Int) < lo) = false) ((s[(↑i : Int).toNat]? = some x) :: (d3 (decide ((↑x.toNat : Int) < lo) = false) [s[(↑i : Int).toNat]? = some x, decide ((↑i : Int) = (↑s.length : Int)) = false, decide ((↑i : Int) < n) = true])))) := by kernel_rfl
theorem b48_3 (W : World) (s : List UInt8) (n lo hi : Int) (i : Nat) (x : UInt8) : sQ W { lp := true } 48 0 [] [0, 2, 4, 5, 6, 7] (S48 s n lo hi i) [bt, bf, aE 1, Ans.byt (some x), bf, bf, bf, aE 1, Ans.byt (some x), bf, bf, bf, bf, ee] = .ok ((.normal, { t := [(0, .str s), (4, iA n), (5, .val (Value.int IntKind.u8 128)), (6, .val (Value.int IntKind.u8 191)), (7, iA (IntKind.i64.wrap ((↑i : Int) + 1)))], h := [] }), [ee], (decide (hi < (↑x.toNat : Int)) = false) :: (d3 (decide ((↑x.toNat : Int) < lo) = false) ((s[(↑i : Int).toNat]? = some x) :: (d3 (decide ((↑x.toNat : Int) < lo) = false) [s[(↑i : Int).toNat]? = some x, decide ((↑i : Int) = (↑s.length : Int)) = false, decide ((↑i : Int) < n) = true])))) := by kernel_rfl
theorem b48_4 (W : World) (s : List UInt8) (n lo hi : Int) (i : Nat) : sQ W { lp := true } 48 0 [] [0, 2, 4, 5, 6, 7] (S48 s n lo hi i) [bf, ee] = .ok ((.exit 1, { t := [(0, .str s), (4, iA n), (5, .val (Value.int IntKind.u8 lo)), (6, .val (Value.int IntKind.u8 hi)), (7, iA (↑i : Int))], h := [] }), [ee], [decide ((↑i : Int) < n) = false]) := by kernel_rfl
theorem b35_0 (W : World) (s : List UInt8) (k : Int) : sQ W { lp := true, tl := [48] } 35 0 [] [0, 2] (S35 s) [bt, ee, cR (iA k) [], bt, ee] = .ok ((.ret, { t := [(0, .str s), (2, bA false)], h := [] }), [ee], [decide (k ≤ 0) = true, MZ W 48 [.str s] [] (.ret (iA k) []), (!decide (s = [])) = true]) := by kernel_rfl
theorem b35_1 (W : World) (s : List UInt8) (k : Int) : sQ W { lp := true, tl := [48] } 35 0 [] [0, 2] (S35 s) [bt, ee, cR (iA k) [], bf, .lg, .lg, ee] = .ok ((.normal, { t := [(0, .str (List.drop k.toNat (List.take (↑(defLen (.str s)) : Int).toNat s)))], h := [] }), [ee], [k ≤ (↑(defLen (.str s)) : Int) ∧ (↑(defLen (.str s)) : Int) ≤ (↑s.length : Int), 0 ≤ k ∧ 0 ≤ (↑(defLen (.str s)) : Int), decide (k ≤ 0) = false, MZ W 48 [.str s] [] (.ret (iA k) []), (!decide (s = [])) = true]) := by kernel_rfl
theorem b35_2 (W : World) (s : List UInt8) : sQ W { lp := true, tl := [48] } 35 0 [] [0, 2] (S35 s) [bf, ee] = .ok ((.exit 0, { t := [(0, .str s)], h := [] }), [ee], [(!decide (s = [])) = false]) := by kernel_rfl
theorem b36_0 (W : World) (l : List (List UInt8)) (s x : List UInt8) (i : Nat) : sQ W { lp := true } 36 0 [] [0, 1, 4, 5] (S36 l s i) [bt, aE 1, oS (.str x), bt, ee] = .ok ((.ret, { t := [(0, sL 1 (List.map AV.str l)), (1, .str s), (4, bA true), (5, iA (↑i : Int))], h := [] }), [ee], [decide (x = s) = true, (List.map AV.str l)[(↑i : Int).toNat]? = some (AV.str x), decide ((↑i : Int) < (↑(List.map AV.str l).length : Int)) = true]) := by kernel_rfl
theorem b36_1 (W : World) (l : List (List UInt8)) (s x : List UInt8) (i : Nat) : sQ W { lp := true } 36 0 [] [0, 1, 4, 5] (S36 l s i) [bt, aE 1, oS (.str x), bf, ee] = .ok ((.normal, { t := [(0, sL 1 (List.map AV.str l)), (1, .str s), (5, iA (IntKind.i64.wrap ((↑i : Int) + 1)))], h := [] }), [ee], [decide (x = s) = false, (List.map AV.str l)[(↑i : Int).toNat]? = some (AV.str x), decide ((↑i : Int) < (↑(List.map AV.str l).length : Int)) = true]) := by kernel_rfl
theorem b36_2 (W : World) (l : List (List UInt8)) (s : List UInt8) (i : Nat) : sQ W { lp := true } 36 0 [] [0, 1, 4, 5] (S36 l s i) [bf, ee] = .ok ((.exit 0, { t := [(0, sL 1 (List.map AV.str l)), (1, .str s), (5, iA (↑i : Int))], h := [] }), [ee], [decide ((↑i : Int) < (↑(List.map AV.str l).length : Int)) = false]) := by kernel_rfl
theorem Ha1_z1 {kp f ph σ σ'} (h : MatchK kp f ph σ σ' := by exact ⟨by rfl, (by simp only [S42, S29, E0, R4f, S48, E48, R2i, R2b, S35, S36, R4t, u8A, tOK, List.map_cons, List.map_nil, and_true] <;> exact zt), (by simp only [S42, S29, E0, R4f, S48, E48, R2i, R2b, S35, S36, R4t, u8A, hOK, List.map_cons, List.map_nil, and_true] <;> exact zh), (by simp only [S42, S29, E0, R4f, S48, E48, R2i, R2b, S35, S36, R4t, u8A, liveT, List.map_cons, List.map_nil, and_true] <;> exact zv), (by simp only [S42, S29, E0, R4f, S48, E48, R2i, R2b, S35, S36, R4t, u8A, liveH, List.map_cons, List.map_nil, and_true] <;> exact zv)⟩) : MatchK kp f ph σ σ' := h
theorem Ha1_z2 {cs} (h : Holds cs := by simp only [Holds, and_true] <;> and_intros <;> first | assumption | exact zd | exact Ha1_z1) : Holds cs := h
theorem call42h : callable Tryz.prog 42 = true := by kernel_rfl
theorem call29h : callable Tryz.prog 29 = true := by kernel_rfl
theorem call48h : callable Tryz.prog 48 = true := by kernel_rfl
theorem call35h : callable Tryz.prog 35 = true := by kernel_rfl
theorem call34h : callable Tryz.prog 34 = true := by kernel_rfl
theorem call36h : callable Tryz.prog 36 = true := by kernel_rfl
section
variable (W : World)
theorem loop48 (s : List UInt8) (n : Nat) (hn : n ≤ 4) : ∀ (k i : Nat) (lo hi : Int), n = i + k → i ≤ s.length →
    (tailC s k i lo hi = (n : Int) ∧ LoopC Tryz.prog W [] (nslots Tryz.prog 48) (loopOf Tryz.prog 48 0) (S48 s n lo hi i) (.exit 1) (E48 n)) ∨ LoopC Tryz.prog W [] (nslots Tryz.prog 48) (loopOf Tryz.prog 48 0) (S48 s n lo hi i) .ret (R2i (tailC s k i lo hi))
  | 0, i, lo, hi, hk, hl => by
    have e : i = n := by omega
    subst e
    exact .inl ⟨by rw [tailC], loop_last (by simp) (body_of_sbodyK mixedz (b48_4 W s i lo hi i) Ha1_z2 [] [] Ha1_z1)⟩
  | k + 1, i, lo, hi, hk, hl => by
    have hin : decide ((i : Int) < (n : Int)) = true := decide_eq_true (by omega)
    by_cases he : i = s.length
    · have h1 : decide ((i : Int) = (s.length : Int)) = true := decide_eq_true (by omega)
      right
      rw [tailC_end s k i lo hi he]
      exact loop_last (by simp) (body_of_sbodyK mixedz (b48_0 W s n lo hi i) Ha1_z2 [] [] Ha1_z1)
    · have h1 : decide ((i : Int) = (s.length : Int)) = false := decide_eq_false (by omega)
      obtain ⟨x, hx⟩ := getOf (l := s) (i := i) (by omega)
      have hget : s[((i : Int)).toNat]? = some x := by rw [Int.toNat_natCast]; exact hx
      have hws : IntKind.i64.wrap ((i : Int) + 1) = ((i + 1 : Nat) : Int) := wrap_succ (by omega)
      by_cases hlo : (x.toNat : Int) < lo
      · have h2 := decide_eq_true hlo
        right
        rw [tailC_out hx (.inl hlo)]
        exact loop_last (by simp) (body_of_sbodyK mixedz (b48_1 W s n lo hi i x) Ha1_z2 [] [] Ha1_z1)
      · have h2 := decide_eq_false hlo
        by_cases hh : hi < (x.toNat : Int)
        · have h3 := decide_eq_true hh
          right
          rw [tailC_out hx (.inr hh)]
          exact loop_last (by simp) (body_of_sbodyK mixedz (b48_2 W s n lo hi i x) Ha1_z2 [] [] Ha1_z1)
        · have h3 := decide_eq_false hh
          rw [tailC_on hx (by rintro (e | e); exact hlo e; exact hh e)]
          rcases loop48 s n hn k (i + 1) 128 191 (by omega) (by omega) with ⟨g1, g2⟩ | g
          · exact .inl ⟨g1, loop_next (body_of_sbodyK mixedz (b48_3 W s n lo hi i x) Ha1_z2 [] [] Ha1_z1) g2⟩
          · exact .inr (loop_next (body_of_sbodyK mixedz (b48_3 W s n lo hi i x) Ha1_z2 [] [] Ha1_z1) g)
theorem char48 (s : List UInt8) : Pure Tryz.prog W 48 [.str s] (iA (charV s)) := by
  cases s with
  | nil =>
    have c0 : decide (([] : List UInt8) = []) = true := rfl
    exact pure_of_mut rfl (mut_of_sfun mixedz call48h rfl (p48_0 W []) Ha1_z2)
  | cons c t =>
    have c0 : decide ((c :: t) = []) = false := rfl
    have hget : (c :: t)[0]? = some c := rfl
    rw [charV_cons]
    by_cases h1 : (c.toNat : Int) < 128
    · have c1 := decide_eq_true h1
      rw [if_pos h1]
      exact pure_of_mut rfl (mut_of_sfun mixedz call48h rfl (p48_1 W (c :: t) c) Ha1_z2)
    have c1 := decide_eq_false h1
    rw [if_neg h1]
    by_cases h2 : 194 ≤ (c.toNat : Int)
    case neg =>
      have c2 := decide_eq_false h2
      have c3 : decide (224 ≤ (c.toNat : Int)) = false := decide_eq_false (by omega)
      have c4 : decide (240 ≤ (c.toNat : Int)) = false := decide_eq_false (by omega)
      rw [if_neg (by omega), if_neg (by omega), if_neg (by omega)]
      exact pure_of_mut rfl (mut_of_sfun mixedz call48h rfl (p48_34 W (c :: t) c) Ha1_z2)
    have c2 := decide_eq_true h2
    by_cases h3 : (c.toNat : Int) ≤ 223
    · have c3 := decide_eq_true h3
      rw [if_pos ⟨h2, h3⟩]
      rcases loop48 W (c :: t) 2 (by omega) 1 1 128 191 (by omega) (by simp) with ⟨e, hlp⟩ | hlp
      · rw [e]; exact pure_of_mut rfl (mut_of_sfun mixedz call48h rfl (p48_2 W (c :: t) ((2 : Nat) : Int) 128 191 ((2 : Nat) : Int) c) Ha1_z2)
      · exact pure_of_mut rfl (mut_of_sfun mixedz call48h rfl (q48_2 W (c :: t) ((2 : Nat) : Int) 128 191 (tailC (c :: t) 1 1 128 191) c) Ha1_z2)
    have c3 := decide_eq_false h3
    rw [if_neg (by omega)]
    have h4 : 224 ≤ (c.toNat : Int) := by omega
    have c4 := decide_eq_true h4
    by_cases h5 : (c.toNat : Int) ≤ 239
    · have c5 := decide_eq_true h5
      rw [if_pos ⟨h4, h5⟩]
      by_cases h6 : (c.toNat : Int) = 224
      · have c6 := decide_eq_true h6
        have c7 : decide ((c.toNat : Int) = 237) = false := decide_eq_false (by omega)
        rw [if_pos h6, if_neg (by omega)]
        rcases loop48 W (c :: t) 3 (by omega) 2 1 160 191 (by omega) (by simp) with ⟨e, hlp⟩ | hlp
        · rw [e]; exact pure_of_mut rfl (mut_of_sfun mixedz call48h rfl (p48_4 W (c :: t) ((3 : Nat) : Int) 160 191 ((3 : Nat) : Int) c) Ha1_z2)
        · exact pure_of_mut rfl (mut_of_sfun mixedz call48h rfl (q48_4 W (c :: t) ((3 : Nat) : Int) 160 191 (tailC (c :: t) 2 1 160 191) c) Ha1_z2)
      have c6 := decide_eq_false h6
      rw [if_neg h6]
      by_cases h7 : (c.toNat : Int) = 237
      · have c7 := decide_eq_true h7
        rw [if_pos h7]
        rcases loop48 W (c :: t) 3 (by omega) 2 1 128 159 (by omega) (by simp) with ⟨e, hlp⟩ | hlp
        · rw [e]; exact pure_of_mut rfl (mut_of_sfun mixedz call48h rfl (p48_5 W (c :: t) ((3 : Nat) : Int) 128 159 ((3 : Nat) : Int) c) Ha1_z2)
        · exact pure_of_mut rfl (mut_of_sfun mixedz call48h rfl (q48_5 W (c :: t) ((3 : Nat) : Int) 128 159 (tailC (c :: t) 2 1 128 159) c) Ha1_z2)
      · have c7 := decide_eq_false h7
        rw [if_neg h7]
        rcases loop48 W (c :: t) 3 (by omega) 2 1 128 191 (by omega) (by simp) with ⟨e, hlp⟩ | hlp
        · rw [e]; exact pure_of_mut rfl (mut_of_sfun mixedz call48h rfl (p48_6 W (c :: t) ((3 : Nat) : Int) 128 191 ((3 : Nat) : Int) c) Ha1_z2)
        · exact pure_of_mut rfl (mut_of_sfun mixedz call48h rfl (q48_6 W (c :: t) ((3 : Nat) : Int) 128 191 (tailC (c :: t) 2 1 128 191) c) Ha1_z2)
    have c5 := decide_eq_false h5
    rw [if_neg (by omega)]
    have h6 : 240 ≤ (c.toNat : Int) := by omega
    have c6 := decide_eq_true h6
    by_cases h7 : (c.toNat : Int) ≤ 244
    · have c7 := decide_eq_true h7
      rw [if_pos ⟨h6, h7⟩]
      by_cases h8 : (c.toNat : Int) = 240
      · have c8 := decide_eq_true h8
        have c9 : decide ((c.toNat : Int) = 244) = false := decide_eq_false (by omega)
        rw [if_pos h8, if_neg (by omega)]
        rcases loop48 W (c :: t) 4 (by omega) 3 1 144 191 (by omega) (by simp) with ⟨e, hlp⟩ | hlp
        · rw [e]; exact pure_of_mut rfl (mut_of_sfun mixedz call48h rfl (p48_8 W (c :: t) ((4 : Nat) : Int) 144 191 ((4 : Nat) : Int) c) Ha1_z2)
        · exact pure_of_mut rfl (mut_of_sfun mixedz call48h rfl (q48_8 W (c :: t) ((4 : Nat) : Int) 144 191 (tailC (c :: t) 3 1 144 191) c) Ha1_z2)
      have c8 := decide_eq_false h8
      rw [if_neg h8]
      by_cases h9 : (c.toNat : Int) = 244
      · have c9 := decide_eq_true h9
        rw [if_pos h9]
        rcases loop48 W (c :: t) 4 (by omega) 3 1 128 143 (by omega) (by simp) with ⟨e, hlp⟩ | hlp
        · rw [e]; exact pure_of_mut rfl (mut_of_sfun mixedz call48h rfl (p48_9 W (c :: t) ((4 : Nat) : Int) 128 143 ((4 : Nat) : Int) c) Ha1_z2)
        · exact pure_of_mut rfl (mut_of_sfun mixedz call48h rfl (q48_9 W (c :: t) ((4 : Nat) : Int) 128 143 (tailC (c :: t) 3 1 128 143) c) Ha1_z2)
      · have c9 := decide_eq_false h9
        rw [if_neg h9]
        rcases loop48 W (c :: t) 4 (by omega) 3 1 128 191 (by omega) (by simp) with ⟨e, hlp⟩ | hlp
        · rw [e]; exact pure_of_mut rfl (mut_of_sfun mixedz call48h rfl (p48_10 W (c :: t) ((4 : Nat) : Int) 128 191 ((4 : Nat) : Int) c) Ha1_z2)
        · exact pure_of_mut rfl (mut_of_sfun mixedz call48h rfl (q48_10 W (c :: t) ((4 : Nat) : Int) 128 191 (tailC (c :: t) 3 1 128 191) c) Ha1_z2)
    · have c7 := decide_eq_false h7
      rw [if_neg (by omega)]
      exact pure_of_mut rfl (mut_of_sfun mixedz call48h rfl (p48_11 W (c :: t) c) Ha1_z2)
theorem loop35 : ∀ (n : Nat) (s : List UInt8), s.length ≤ n → (clB s = true ∧ LoopC Tryz.prog W [] (nslots Tryz.prog 35) (loopOf Tryz.prog 35 0) (S35 s) (.exit 0) E0) ∨ (clB s = false ∧ LoopC Tryz.prog W [] (nslots Tryz.prog 35) (loopOf Tryz.prog 35 0) (S35 s) .ret (R2b false)) := by
  intro n
  induction n with
  | zero =>
    intro s hs
    obtain rfl : s = [] := List.length_eq_zero_iff.1 (by omega)
    exact .inl ⟨rfl, loop_last (by simp) (body_of_sbodyK mixedz (b35_2 W []) ⟨rfl, trivial⟩ [] [] Ha1_z1)⟩
  | succ n ih =>
    intro s hs
    by_cases h0 : s = []
    · subst h0
      exact .inl ⟨rfl, loop_last (by simp) (body_of_sbodyK mixedz (b35_2 W []) ⟨rfl, trivial⟩ [] [] Ha1_z1)⟩
    have c0 : (!decide (s = [])) = true := by rw [decide_eq_false h0]; rfl
    have hc := mut_of_pure (by rfl) (char48 W s)
    have hle := charV_le s
    by_cases h1 : charV s ≤ 0
    · have c1 := decide_eq_true h1
      exact .inr ⟨clB_no h0 h1, loop_last (by simp) (body_of_sbodyK mixedz (b35_0 W s (charV s)) ⟨c1, hc, c0, trivial⟩ [] [] Ha1_z1)⟩
    · have c1 := decide_eq_false h1
      have hon := clB_on h0 h1
      have hr := ih (s.drop (charV s).toNat) (by rw [List.length_drop]; omega)
      have e : List.drop (charV s).toNat (List.take (((defLen (AV.str s) : Nat)) : Int).toNat s) = s.drop (charV s).toNat := by
        rw [Int.toNat_natCast, show defLen (AV.str s) = s.length from rfl, List.take_length]
      have hb := b35_1 W s (charV s)
      rw [e] at hb
      have hB := body_of_sbodyK mixedz hb (σ3 := S35 (s.drop (charV s).toNat)) ⟨⟨by show charV s ≤ (s.length : Int); omega, by show (s.length : Int) ≤ (s.length : Int); omega⟩, ⟨by omega, by show (0 : Int) ≤ (s.length : Int); omega⟩, c1, hc, c0, trivial⟩ [] [] Ha1_z1
      rw [hon] at hr
      rcases hr with ⟨g1, g2⟩ | ⟨g1, g2⟩
      · exact .inl ⟨g1, loop_next hB g2⟩
      · exact .inr ⟨g1, loop_next hB g2⟩
theorem clean35 (s : List UInt8) : Pure Tryz.prog W 35 [.str s] (bA (clB s)) := by
  rcases loop35 W s.length s (Nat.le_refl _) with ⟨e, hlp⟩ | ⟨e, hlp⟩
  · rw [e]; exact pure_of_mut rfl (mut_of_sfun mixedz call35h rfl (p35_0 W s) Ha1_z2)
  · rw [e]; exact pure_of_mut rfl (mut_of_sfun mixedz call35h rfl (q35_0 W s) Ha1_z2)
theorem tail34 (h : JH) (l : List JV) (hp : ((!decide (h.kind = 3) && !decide (h.int = 0)) || (!decide (h.kind = 4) && !decide (h.text = []))) = false)
    (g1 : decide (h.kind = 6) = true → MutC Tryz.prog W 34 [eV h l] [] (.ret (bA (decide (((List.map AV.str h.names).length : Int) = ((encVs l).length : Int)))) []))
    (g2 : decide (h.kind = 6) = false → decide (((List.map AV.str h.names).length : Int) = 0) = true → decide (h.kind = 5) = true → MutC Tryz.prog W 34 [eV h l] [] (.ret (bA true) []))
    (g3 : decide (h.kind = 6) = false → decide (((List.map AV.str h.names).length : Int) = 0) = true → decide (h.kind = 5) = false → MutC Tryz.prog W 34 [eV h l] [] (.ret (bA (decide (((encVs l).length : Int) = 0))) []))
    (g4 : decide (h.kind = 6) = false → decide (((List.map AV.str h.names).length : Int) = 0) = false → MutC Tryz.prog W 34 [eV h l] [] (.ret (bA false) [])) :
    Pure Tryz.prog W 34 [eV h l] (bA (plB h l.length)) := by
  have ep : plB h l.length = (if h.kind = 6 then decide (h.names.length = l.length) else decide (h.names.length = 0) && (decide (h.kind = 5) || decide (l.length = 0))) := by rw [plB, hp]; rfl
  rw [ep]
  by_cases h6 : h.kind = 6
  · have hM := g1 (decide_eq_true h6)
    rw [if_pos h6, show decide (h.names.length = l.length) = decide (((List.map AV.str h.names).length : Int) = ((encVs l).length : Int)) by (simp [encVs_len]; omega)]
    exact pure_of_mut rfl hM
  · rw [if_neg h6]
    by_cases hn : h.names.length = 0
    · have en : decide (((List.map AV.str h.names).length : Int) = 0) = true := by rw [List.length_map]; exact decide_eq_true (by omega)
      rw [decide_eq_true hn]
      by_cases h5 : h.kind = 5
      · rw [decide_eq_true h5]
        exact pure_of_mut rfl (g2 (decide_eq_false h6) en (decide_eq_true h5))
      · rw [decide_eq_false h5, show (true && (false || decide (l.length = 0))) = decide (((encVs l).length : Int) = 0) by simp [encVs_len]]
        exact pure_of_mut rfl (g3 (decide_eq_false h6) en (decide_eq_false h5))
    · have en : decide (((List.map AV.str h.names).length : Int) = 0) = false := by rw [List.length_map]; exact decide_eq_false (by omega)
      rw [decide_eq_false hn]
      exact pure_of_mut rfl (g4 (decide_eq_false h6) en)
theorem plain34 (v : JV) : Pure Tryz.prog W 34 [encV v] (bA (plB v.hd v.items.length)) := by
  obtain ⟨h, l⟩ := v
  show Pure Tryz.prog W 34 [eV h l] (bA (plB h l.length))
  by_cases h3 : h.kind = 3
  · have c3 : (!decide (h.kind = 3)) = false := by rw [decide_eq_true h3]; rfl
    by_cases h4 : h.kind = 4
    · omega
    have c4 : (!decide (h.kind = 4)) = true := by rw [decide_eq_false h4]; rfl
    by_cases h2 : h.text = []
    · have c2 : (!decide (h.text = [])) = false := by rw [decide_eq_true h2]; rfl
      exact tail34 W h l (by rw [c3, c4, c2]; rfl) (fun e1 => mut_of_sfun mixedz call34h rfl (p34_11 W h l) Ha1_z2) (fun e1 e2 e3 => mut_of_sfun mixedz call34h rfl (p34_12 W h l) Ha1_z2) (fun e1 e2 e3 => mut_of_sfun mixedz call34h rfl (p34_13 W h l) Ha1_z2) (fun e1 e2 => mut_of_sfun mixedz call34h rfl (p34_14 W h l) Ha1_z2)
    · have c2 : (!decide (h.text = [])) = true := by rw [decide_eq_false h2]; rfl
      rw [show plB h l.length = false by rw [plB, c3, c4, c2]; rfl]
      exact pure_of_mut rfl (mut_of_sfun mixedz call34h rfl (p34_10 W h l) Ha1_z2)
  · have c3 : (!decide (h.kind = 3)) = true := by rw [decide_eq_false h3]; rfl
    by_cases h0 : h.int = 0
    case neg =>
      have c0 : (!decide (h.int = 0)) = true := by rw [decide_eq_false h0]; rfl
      rw [show plB h l.length = false by rw [plB, c3, c0]; rfl]
      exact pure_of_mut rfl (mut_of_sfun mixedz call34h rfl (p34_0 W h l) Ha1_z2)
    have c0 : (!decide (h.int = 0)) = false := by rw [decide_eq_true h0]; rfl
    by_cases h4 : h.kind = 4
    · have c4 : (!decide (h.kind = 4)) = false := by rw [decide_eq_true h4]; rfl
      exact tail34 W h l (by rw [c3, c0, c4]; rfl) (fun e1 => mut_of_sfun mixedz call34h rfl (p34_6 W h l) Ha1_z2) (fun e1 e2 e3 => mut_of_sfun mixedz call34h rfl (p34_7 W h l) Ha1_z2) (fun e1 e2 e3 => mut_of_sfun mixedz call34h rfl (p34_8 W h l) Ha1_z2) (fun e1 e2 => mut_of_sfun mixedz call34h rfl (p34_9 W h l) Ha1_z2)
    have c4 : (!decide (h.kind = 4)) = true := by rw [decide_eq_false h4]; rfl
    by_cases h2 : h.text = []
    · have c2 : (!decide (h.text = [])) = false := by rw [decide_eq_true h2]; rfl
      exact tail34 W h l (by rw [c3, c0, c4, c2]; rfl) (fun e1 => mut_of_sfun mixedz call34h rfl (p34_2 W h l) Ha1_z2) (fun e1 e2 e3 => mut_of_sfun mixedz call34h rfl (p34_3 W h l) Ha1_z2) (fun e1 e2 e3 => mut_of_sfun mixedz call34h rfl (p34_4 W h l) Ha1_z2) (fun e1 e2 => mut_of_sfun mixedz call34h rfl (p34_5 W h l) Ha1_z2)
    · have c2 : (!decide (h.text = [])) = true := by rw [decide_eq_false h2]; rfl
      rw [show plB h l.length = false by rw [plB, c3, c0, c4, c2]; rfl]
      exact pure_of_mut rfl (mut_of_sfun mixedz call34h rfl (p34_1 W h l) Ha1_z2)
theorem has36 (l : List (List UInt8)) (s : List UInt8) (hl : l.length < 2 ^ 62) : Pure Tryz.prog W 36 [.sl 1 (l.map AV.str) [], .str s] (bA (hasB l s)) := by
  have loop : ∀ (j i : Nat), l.length - i = j → i ≤ l.length → (s ∉ l.drop i ∧ LoopC Tryz.prog W [] (nslots Tryz.prog 36) (loopOf Tryz.prog 36 0) (S36 l s i) (.exit 0) E0) ∨ (s ∈ l.drop i ∧ LoopC Tryz.prog W [] (nslots Tryz.prog 36) (loopOf Tryz.prog 36 0) (S36 l s i) .ret R4t) := by
    intro j
    induction j with
    | zero =>
      intro i hj hi
      have e : decide ((i : Int) < ((List.map AV.str l).length : Int)) = false := by rw [List.length_map]; exact decide_eq_false (by omega)
      exact .inl ⟨by rw [List.drop_of_length_le (by omega)]; simp, loop_last (by simp) (body_of_sbodyK mixedz (b36_2 W l s i) Ha1_z2 [] [] Ha1_z1)⟩
    | succ j ih =>
      intro i hj hi
      obtain ⟨x, hx⟩ := getOf (l := l) (i := i) (by omega)
      have e : decide ((i : Int) < ((List.map AV.str l).length : Int)) = true := by rw [List.length_map]; exact decide_eq_true (by omega)
      have hget : (List.map AV.str l)[((i : Int)).toNat]? = some (AV.str x) := by rw [Int.toNat_natCast]; exact strs_get hx
      have hws : IntKind.i64.wrap ((i : Int) + 1) = ((i + 1 : Nat) : Int) := wrap_succ (by omega)
      rw [drop_get hx]
      by_cases h : x = s
      · have c := decide_eq_true h
        exact .inr ⟨by simp [h], loop_last (by simp) (body_of_sbodyK mixedz (b36_0 W l s x i) Ha1_z2 [] [] Ha1_z1)⟩
      · have c := decide_eq_false h
        rcases ih (i + 1) (by omega) (by omega) with ⟨g1, g2⟩ | ⟨g1, g2⟩
        · exact .inl ⟨by simp [g1, Ne.symm h], loop_next (body_of_sbodyK mixedz (b36_1 W l s x i) Ha1_z2 [] [] Ha1_z1) g2⟩
        · exact .inr ⟨by simp [g1], loop_next (body_of_sbodyK mixedz (b36_1 W l s x i) Ha1_z2 [] [] Ha1_z1) g2⟩
  rcases loop l.length 0 (by omega) (by omega) with ⟨g, hlp⟩ | ⟨g, hlp⟩
  · rw [show hasB l s = false by unfold hasB; exact decide_eq_false (by simpa using g)]
    exact pure_of_mut rfl (mut_of_sfun mixedz call36h rfl (p36_0 W l s) Ha1_z2)
  · rw [show hasB l s = true by unfold hasB; exact decide_eq_true (by simpa using g)]
    exact pure_of_mut rfl (mut_of_sfun mixedz call36h rfl (q36_0 W l s) Ha1_z2)
theorem clash_drop {a b : List (List UInt8)} {i : Nat} {x y : List UInt8} (hx : a[i]? = some x) (hy : b[i]? = some y) : clashB (a.drop i) (b.drop i) = if x = y then clashB (a.drop (i + 1)) (b.drop (i + 1)) else false := by
  rw [drop_get hx, drop_get hy, clashB]
theorem clash42 (a b : List (List UInt8)) (ha : a.length < 2 ^ 62) : Pure Tryz.prog W 42 [.sl 1 (a.map AV.str) [], .sl 1 (b.map AV.str) []] (bA (clashB a b)) := by
  have loop : ∀ (j i : Nat), a.length - i = j → i ≤ a.length → (clashB (a.drop i) (b.drop i) = true ∧ LoopC Tryz.prog W [] (nslots Tryz.prog 42) (loopOf Tryz.prog 42 0) (S42 a b i) (.exit 0) E0) ∨ (clashB (a.drop i) (b.drop i) = false ∧ LoopC Tryz.prog W [] (nslots Tryz.prog 42) (loopOf Tryz.prog 42 0) (S42 a b i) .ret R4f) := by
    intro j
    induction j with
    | zero =>
      intro i hj hi
      have e : decide ((i : Int) < ((List.map AV.str a).length : Int)) = false := by rw [List.length_map]; exact decide_eq_false (by omega)
      exact .inl ⟨by rw [List.drop_of_length_le (l := a) (by omega)]; rfl, loop_last (by simp) (body_of_sbodyK mixedz (b42_3 W a b i) Ha1_z2 [] [] Ha1_z1)⟩
    | succ j ih =>
      intro i hj hi
      obtain ⟨x, hx⟩ := getOf (l := a) (i := i) (by omega)
      have e : decide ((i : Int) < ((List.map AV.str a).length : Int)) = true := by rw [List.length_map]; exact decide_eq_true (by omega)
      have hget : (List.map AV.str a)[((i : Int)).toNat]? = some (AV.str x) := by rw [Int.toNat_natCast]; exact strs_get hx
      have hws : IntKind.i64.wrap ((i : Int) + 1) = ((i + 1 : Nat) : Int) := wrap_succ (by omega)
      by_cases hb : i < b.length
      · obtain ⟨y, hy⟩ := getOf (l := b) (i := i) hb
        have e2 : decide ((i : Int) < ((List.map AV.str b).length : Int)) = true := by rw [List.length_map]; exact decide_eq_true (by omega)
        have hget2 : (List.map AV.str b)[((i : Int)).toNat]? = some (AV.str y) := by rw [Int.toNat_natCast]; exact strs_get hy
        rw [clash_drop hx hy]
        by_cases h : x = y
        · have c : (!decide (x = y)) = false := by rw [decide_eq_true h]; rfl
          rw [if_pos h]
          rcases ih (i + 1) (by omega) (by omega) with ⟨g1, g2⟩ | ⟨g1, g2⟩
          · exact .inl ⟨g1, loop_next (body_of_sbodyK mixedz (b42_1 W a b x y i) Ha1_z2 [] [] Ha1_z1) g2⟩
          · exact .inr ⟨g1, loop_next (body_of_sbodyK mixedz (b42_1 W a b x y i) Ha1_z2 [] [] Ha1_z1) g2⟩
        · have c : (!decide (x = y)) = true := by rw [decide_eq_false h]; rfl
          rw [if_neg h]
          exact .inr ⟨rfl, loop_last (by simp) (body_of_sbodyK mixedz (b42_0 W a b x y i) Ha1_z2 [] [] Ha1_z1)⟩
      · have e2 : decide ((i : Int) < ((List.map AV.str b).length : Int)) = false := by rw [List.length_map]; exact decide_eq_false (by omega)
        refine .inl ⟨?_, loop_last (by simp) (body_of_sbodyK mixedz (b42_2 W a b i) Ha1_z2 [] [] Ha1_z1)⟩
        rw [List.drop_of_length_le (l := b) (by omega)]
        cases a.drop i <;> rfl
  rcases loop a.length 0 (by omega) (by omega) with ⟨g, hlp⟩ | ⟨g, hlp⟩
  · rw [show clashB a b = true by simpa using g]
    exact pure_of_mut rfl (mut_of_sfun mixedz call42h rfl (p42_0 W a b) Ha1_z2)
  · rw [show clashB a b = false by simpa using g]
    exact pure_of_mut rfl (mut_of_sfun mixedz call42h rfl (r42_0 W a b) Ha1_z2)
theorem clash29 (a b : List (List UInt8)) (ha : a.length < 2 ^ 62) : Pure Tryz.prog W 29 [.sl 1 (a.map AV.str) [], .sl 1 (b.map AV.str) []] (bA (clashB a b)) := by
  obtain ⟨m, hm⟩ : ∃ m : Int, m = (if ((List.map AV.str b).length : Int) < ((List.map AV.str a).length : Int) then ((List.map AV.str b).length : Int) else ((List.map AV.str a).length : Int)) := ⟨_, rfl⟩
  have hm1 : m = if b.length < a.length then (b.length : Int) else (a.length : Int) := by rw [hm, List.length_map, List.length_map]; split <;> split <;> omega
  have loop : ∀ (j i : Nat), a.length - i = j → i ≤ a.length → i ≤ b.length → (clashB (a.drop i) (b.drop i) = true ∧ LoopC Tryz.prog W [] (nslots Tryz.prog 29) (loopOf Tryz.prog 29 0) (S29 a b m i) (.exit 0) E0) ∨ (clashB (a.drop i) (b.drop i) = false ∧ LoopC Tryz.prog W [] (nslots Tryz.prog 29) (loopOf Tryz.prog 29 0) (S29 a b m i) .ret R4f) := by
    intro j
    induction j with
    | zero =>
      intro i hj hi hib
      have e : decide ((i : Int) < m) = false := decide_eq_false (by split at hm1 <;> omega)
      exact .inl ⟨by rw [List.drop_of_length_le (l := a) (by omega)]; rfl, loop_last (by simp) (body_of_sbodyK mixedz (b29_2 W a b i m) Ha1_z2 [] [] Ha1_z1)⟩
    | succ j ih =>
      intro i hj hi hib
      have hws : IntKind.i64.wrap ((i : Int) + 1) = ((i + 1 : Nat) : Int) := wrap_succ (by omega)
      by_cases hb : i < b.length
      · obtain ⟨x, hx⟩ := getOf (l := a) (i := i) (by omega)
        have hget : (List.map AV.str a)[((i : Int)).toNat]? = some (AV.str x) := by rw [Int.toNat_natCast]; exact strs_get hx
        obtain ⟨y, hy⟩ := getOf (l := b) (i := i) hb
        have hget2 : (List.map AV.str b)[((i : Int)).toNat]? = some (AV.str y) := by rw [Int.toNat_natCast]; exact strs_get hy
        have e : decide ((i : Int) < m) = true := decide_eq_true (by split at hm1 <;> omega)
        rw [clash_drop hx hy]
        by_cases h : x = y
        · have c : (!decide (x = y)) = false := by rw [decide_eq_true h]; rfl
          rw [if_pos h]
          rcases ih (i + 1) (by omega) (by omega) (by omega) with ⟨g1, g2⟩ | ⟨g1, g2⟩
          · exact .inl ⟨g1, loop_next (body_of_sbodyK mixedz (b29_1 W a b x y i m) Ha1_z2 [] [] Ha1_z1) g2⟩
          · exact .inr ⟨g1, loop_next (body_of_sbodyK mixedz (b29_1 W a b x y i m) Ha1_z2 [] [] Ha1_z1) g2⟩
        · have c : (!decide (x = y)) = true := by rw [decide_eq_false h]; rfl
          rw [if_neg h]
          exact .inr ⟨rfl, loop_last (by simp) (body_of_sbodyK mixedz (b29_0 W a b x y i m) Ha1_z2 [] [] Ha1_z1)⟩
      · have e : decide ((i : Int) < m) = false := decide_eq_false (by split at hm1 <;> omega)
        refine .inl ⟨?_, loop_last (by simp) (body_of_sbodyK mixedz (b29_2 W a b i m) Ha1_z2 [] [] Ha1_z1)⟩
        rw [List.drop_of_length_le (l := b) (by omega)]
        cases a.drop i <;> rfl
  rcases loop a.length 0 (by omega) (by omega) (by omega) with ⟨g, hlp⟩ | ⟨g, hlp⟩
  · rw [show clashB a b = true by simpa using g]
    refine pure_of_mut rfl (mut_of_sfun mixedz call29h rfl (p29_0 W a b m) ?_)
    rw [← hm]; exact Ha1_z2
  · rw [show clashB a b = false by simpa using g]
    refine pure_of_mut rfl (mut_of_sfun mixedz call29h rfl (r29_0 W a b m) ?_)
    rw [← hm]; exact Ha1_z2
end
end Go.Ac

