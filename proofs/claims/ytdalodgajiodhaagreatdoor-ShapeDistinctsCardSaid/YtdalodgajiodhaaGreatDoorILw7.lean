/- What is proved: contracts of functions of this translation, walked; their plain meaning. No condition beyond those that each theorem names. -/
import Derived.Test.YtdalodgajiodhaaGreatDoorSd7
import Derived.Test.YtdalodgajiodhaaGreatDoorIHFb1
import Derived.Test.YtdalodgajiodhaaGreatDoorILw6
set_option linter.all false
set_option maxRecDepth 10000
set_option maxHeartbeats 4000000
namespace Go.Ac
open Go Go.Proofs
def V1 (n : Int) : AV := AV.agg [AV.val (Value.int IntKind.i64 3), AV.val (Value.int IntKind.i64 n), AV.str [], AV.val (Value.slice none 0 0), AV.val (Value.slice none 0 0)]
def C1 (k : Nat) (n : Int) : OutC := .ret (.tup [.val (.int .i64 0), .val (.bool true)]) [(k, GE.arr 25 5 [V1 n] St.own)]
def L6 (n : Int) : List (Nat × GE) := [(100045, GE.arr 25 5 [V1 n] St.own)]
theorem v1_le (n : Int) : LeL [.sl 5 [V1 n] []] [.sl 5 [encV (.mk ⟨3, n, [], []⟩ [])] []] :=
  .cons (.els (.cons (.agg (.cons (.refl _) (.cons (.refl _) (.cons (.refl _) (.cons (.nil 1) (.cons (.nil 5) .nil)))))) .nil) (fun e he => by obtain rfl := List.mem_singleton.1 he; rfl)) .nil
theorem frz6 (n : Int) : ∀ p ∈ L6 n, hg (L6 n) p.1 = some p.2 ∧ Frzable p.2 := fun p hp => by
  obtain rfl := List.mem_singleton.1 hp
  exact ⟨rfl, by first | trivial | exact ⟨rfl, rfl⟩ | simp [Frzable]⟩
theorem told46 (W : World) (n : Int) : MutC Tryz.prog W 46 [AV.gs 100045 0 1] (L6 n) (C1 100045 n) :=
  mut_of_pureFlat (frz6 n) (by rfl) (by rfl) (by rfl) (pure_le (v1_le n) (pure46 W _))
theorem told47 (W : World) (n : Int) : MutC Tryz.prog W 47 [AV.gs 100045 0 1] (L6 n) (C1 100045 n) :=
  mut_of_pureFlat (frz6 n) (by rfl) (by rfl) (by rfl) (pure_le (v1_le n) (pure47 W _))
theorem call9 : callable Tryz.prog 9 = true := by kernel_rfl
theorem run9 (W : World) : sfun Tryz.prog W { tl := [46, 47] } 1000 30 9 [] [] 100000 [Ans.ev 10000000, Ans.call (C1 100045 2), Ans.ev 10000000, Ans.call (C1 100045 2), Ans.ev 10000000, Ans.call (C1 100045 1), Ans.ev 10000000, Ans.call (C1 100045 1), Ans.ev 10000000] [] =
  .ok (OutC.ret (AV.val (Value.bool true)) [], [Ans.ev 9999866], [MutC Tryz.prog W 47 [AV.gs 100045 0 1] (L6 1) (C1 100045 1), MutC Tryz.prog W 46 [AV.gs 100045 0 1] (L6 1) (C1 100045 1), MutC Tryz.prog W 47 [AV.gs 100045 0 1] (L6 2) (C1 100045 2), MutC Tryz.prog W 46 [AV.gs 100045 0 1] (L6 2) (C1 100045 2)]) := by kernel_rfl
theorem live9 (W : World) : Pure Tryz.prog W 9 [] (.val (.bool true)) :=
  pure_of_mut rfl (mut_of_sfun mixedz call9 rfl (run9 W) ⟨told47 W 1, told46 W 1, told47 W 2, told46 W 2, trivial⟩)
end Go.Ac

