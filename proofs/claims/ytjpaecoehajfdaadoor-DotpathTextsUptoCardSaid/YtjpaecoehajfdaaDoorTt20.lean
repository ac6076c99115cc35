/- What is proved: contracts of functions of this translation, walked; their plain meaning. No condition beyond those that each theorem names. -/
import Derived.Test.YtjpaecoehajfdaaDoorTt19
set_option linter.all false
namespace Go.Ab
open Go Go.Proofs

set_option maxRecDepth 4000
set_option maxHeartbeats 1000000


theorem rep_set {α : Type} {l : List α} {i : Nat} (a : α) (h : i < l.length) : (List.replicate i a ++ l.drop i).set i a = List.replicate (i + 1) a ++ l.drop (i + 1) := by
  rw [List.set_append, if_neg (by simp), List.drop_eq_getElem_cons h, List.length_replicate, Nat.sub_self, List.set_cons_zero, List.replicate_succ', List.append_assoc]; rfl
theorem rep_get {α : Type} {l : List α} {i : Nat} (a : α) (h : i < l.length) : ∃ x, (List.replicate i a ++ l.drop i)[i]? = some x := ⟨_, List.getElem?_eq_getElem (by simp; omega)⟩


end Go.Ab

