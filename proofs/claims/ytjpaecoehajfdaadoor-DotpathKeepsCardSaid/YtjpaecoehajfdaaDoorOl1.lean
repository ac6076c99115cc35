/- What is proved: contracts of functions of this translation, walked; their plain meaning. No condition beyond those that each theorem names. -/
import Derived.Test.YtjpaecoehajfdaaDoorTt27
import Derived.Test.YtjpaecoehajfdaaDoorCn
set_option linter.all false
namespace Go.Ab
open Go Go.Proofs

theorem known_eq {v : JV} {s : List UInt8} {i j : Nat} (h : knownP v) (hi : v.names[i]? = some s) (hj : v.names[j]? = some s) : i = j := by
  have h2 := ((knownP_iff v).1 h).2.1
  rcases Nat.lt_trichotomy i j with h1 | h1 | h1
  · exact absurd (hj.trans hi.symm) (h2 j i h1 (get_lt hj))
  · exact h1
  · exact absurd (hi.trans hj.symm) (h2 i j h1 (get_lt hi))
theorem known_item {v x : JV} {i : Nat} (h : knownP v) (hx : v.items[i]? = some x) : knownP x := ((knownP_iff v).1 h).2.2 i x hx
theorem known_len {v : JV} (h : knownP v) (hk : v.kind = 6) : v.names.length = v.items.length := ((knownP_iff v).1 h).1 hk

theorem child_at {v : JV} {s : List UInt8} {j : Nat} (h : knownP v) (hk : v.kind = 6) (hj : v.names[j]? = some s) : v.child s = (j : Nat) := by
  have hl := known_len h hk
  have hm : v.mem = v.names.length := by unfold JV.mem; split <;> omega
  rw [child_obj hk, JV.place, placeL_some s v.names v.mem 0 j (by have := get_lt hj; omega) hj (fun k hk' q => by have := known_eq h hj q; omega)]
  simp
theorem child_no {v : JV} {s : List UInt8} (hk : v.kind = 6) (hn : s ∉ v.names) : v.child s = -1 := by
  rw [child_obj hk, JV.place]
  exact placeL_none s v.names v.mem 0 fun k _ q => hn (List.mem_of_getElem? q)

theorem numL_snoc (l : List UInt8) (d : UInt8) (a : Nat) : numL (l ++ [d]) a = 10 * numL l a + (d.toNat - 48) := by rw [numL_append]; rfl
theorem zero_known : knownP JV.zero := by rw [knownP_iff]; exact ⟨fun h => rfl, (by intro a b _ h; cases h), (by intro i y h; cases h)⟩
end Go.Ab

