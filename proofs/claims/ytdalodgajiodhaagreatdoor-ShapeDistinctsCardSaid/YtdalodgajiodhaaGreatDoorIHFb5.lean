/- What is proved: contracts of functions of this translation, walked; their plain meaning. No condition beyond those that each theorem names. -/
import Derived.Test.YtdalodgajiodhaaGreatDoorIHFb4
set_option linter.all false
namespace Go.Ac
open Go Go.Proofs
set_option maxRecDepth 10000
set_option maxHeartbeats 1000000
def S23 (s : List UInt8) (p : List (List UInt8)) (a i j : Nat) : AS := ⟨[(0, .str s), (5, .gs 100000 0 j), (6, iA a), (7, iA i)], [(100000, .arr 9 1 ((p.take j).map AV.str) .own)]⟩
def E23 (p : List (List UInt8)) : AS := ⟨[(5, .gs 100000 0 p.length)], [(100000, .arr 9 1 (p.map AV.str) .own)]⟩
theorem p23_0 (W : World) (s : List UInt8) (p : List (List UInt8)) (t : Int) : sF W { fin := 9, lp := true } 34 [.str s] [] 100000 [ee, .loopM [] [(100000, 1)] (S23 s p 0 0 0) (.exit 0) (E23 p), ee, .fin [] [] (.tup [.gs 100000 0 p.length, iA 0, iA 0]) [(100000, .arr 9 1 (List.map AV.str p) .own)], ee] [] = .ok (.ret (.tup [.gs 100000 0 p.length, iA 0, iA 0]) [(100000, .arr 9 1 (List.map AV.str p) .own)], [ee], [MatchK [] [] [] { t := [(0, .tup [.gs 100000 0 p.length, iA 0, iA 0])], h := [(100000, .arr 9 1 (List.map AV.str p) .own)] } { t := [(0, .tup [.gs 100000 0 p.length, iA 0, iA 0])], h := [(100000, .arr 9 1 (List.map AV.str p) .own)] }, LZ W [] 34 0 (S23 s p 0 0 0) (.exit 0) (E23 p), MatchK [] [] [(100000, 1)] { t := [(0, .str s), (5, .val (Value.slice none 0 0)), (6, iA 0), (7, iA 0)], h := [] } (S23 s p 0 0 0)]) := by kernel_rfl
theorem call23 : callable Tryz.prog 34 = true := by kernel_rfl
theorem push_eq {p : List (List UInt8)} {i : Nat} {x : List UInt8} (hx : p[i]? = some x) : List.take i (List.map AV.str (List.take i p)) ++ [AV.str x] = List.map AV.str (List.take (i + 1) p) := by
  rw [take_snoc hx, List.map_append, ← List.map_take, List.take_take, Nat.min_self]; rfl
section
variable (W : World) (s : List UInt8) (p : List (List UInt8))
end
end Go.Ac

