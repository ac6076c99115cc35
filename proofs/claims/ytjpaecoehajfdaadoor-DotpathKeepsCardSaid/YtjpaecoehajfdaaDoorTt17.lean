/- What is proved: contracts of functions of this translation, walked; their plain meaning. No condition beyond those that each theorem names. -/
import Derived.Test.YtjpaecoehajfdaaDoorTt16
set_option linter.all false
namespace Go.Ab
open Go Go.Proofs

set_option maxRecDepth 4000
set_option maxHeartbeats 1000000


theorem largeV_false {l : List JV} (hv : okVs l) (h : largeV l = false) : ∀ v ∈ l, cntV v ≤ 5000 := by
  unfold largeV at h
  have h1 : partsS l ≤ 5000 := by simpa using h
  have key : ∀ l : List JV, okVs l → partsS l ≤ 5000 → ∀ v ∈ l, partsV v 5000 ≤ 5000 := by
    intro l
    induction l with
    | nil => intro _ _ v hm; cases hm
    | cons j l ih =>
      intro hv h v hm
      have h2 := partsS_bd l hv.2
      have h3 := partsV_bd j 5000 hv.1 (by omega)
      have e : partsS (j :: l) = partsV j 5000 + partsS l := by simp [partsS]
      rw [e] at h
      rcases List.mem_cons.1 hm with rfl | hm
      · omega
      · exact ih hv.2 (by omega) v hm
  intro v hm
  have := partsV_le v 5000 (key l hv h1 v hm)
  omega

end Go.Ab

