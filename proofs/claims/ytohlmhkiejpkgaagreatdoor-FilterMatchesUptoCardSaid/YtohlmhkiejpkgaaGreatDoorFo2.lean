/- What is proved: contracts of functions of this translation, walked; their plain meaning. No condition beyond those that each theorem names. -/
import Derived.Test.YtohlmhkiejpkgaaGreatDoorFo1
set_option linter.all false
namespace Go.Ac
open Go Go.Proofs
set_option maxRecDepth 10000
set_option maxHeartbeats 4000000
section
variable {A:JV->List JV->Bool} {M:JV->JV->Bool} {x:JV} {l:List JV}
theorem opG_ne:opG A M sNe x l=!eqG x l:=by rw [opG,if_pos rfl]
theorem opG_nin:opG A M sNin x l=!(x.items.any fun y=>eqG y l):=by rw [opG,if_neg (by decide),if_pos rfl]
theorem opG_not:opG A M sNot x l=!(A x l):=by rw [opG,if_neg (by decide),if_neg (by decide),if_pos rfl]
theorem opG_eq:opG A M sEq x l=eqG x l:=by rw [opG,if_neg (by decide),if_neg (by decide),if_neg (by decide),if_pos rfl]
theorem opG_in:opG A M sIn x l=x.items.any (fun y=>eqG y l):=by rw [opG,if_neg (by decide),if_neg (by decide),if_neg (by decide),if_neg (by decide),if_pos rfl]
theorem opG_all:opG A M sAll x l=(decide (0<x.items.length) && x.items.all (fun y=>eqG y l)):=by rw [opG,if_neg (by decide),if_neg (by decide),if_neg (by decide),if_neg (by decide),if_neg (by decide),if_pos rfl]
theorem opG_ex:opG A M sExists x l=decide ((0<l.length) ↔ x.kind=2):=by rw [opG,if_neg (by decide),if_neg (by decide),if_neg (by decide),if_neg (by decide),if_neg (by decide),if_neg (by decide),if_pos rfl]
end
section
variable (W:World)
end
end Go.Ac

