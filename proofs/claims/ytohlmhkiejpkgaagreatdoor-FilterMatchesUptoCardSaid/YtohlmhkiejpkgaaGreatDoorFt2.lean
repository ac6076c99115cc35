/- What is proved: contracts of functions of this translation, walked; their plain meaning. No condition beyond those that each theorem names. -/
import Derived.Test.YtohlmhkiejpkgaaGreatDoorFt1
set_option linter.all false
namespace Go.Ac
open Go Go.Proofs
set_option maxRecDepth 10000
set_option maxHeartbeats 2000000
section
variable (W:World) (q a b:JV) (ps:List (List UInt8))
theorem all30M (v:JV) (s:List UInt8) (hv:cntV v<=2 ^ 30):MutC Tryz.prog W 30 [encV v,.sl 1 ((parseP s).map AV.str) []] [] (.ret (.sl 5 (encVs (allV v (parseP s))) []) []) :=
 mut_of_pure (by simp only [cloL,encV_clo,Bool.and_self];rfl) (all30 W _ v (parseP s) (Nat.lt_succ_self _) hv)
theorem parse23M {s:List UInt8} (hs:s.length<=2 ^ 30) (hE:parseE s=0):MutC Tryz.prog W 23 [.str s] [] (.ret (.tup [.sl 1 ((parseP s).map AV.str) [],iA 0,iA (parseA s)]) []):=by
 have:=mut_of_pure (by rfl) (Parse23 W s hs)
 unfold parseAV at this
 rw [hE] at this;exact this
end
end Go.Ac

