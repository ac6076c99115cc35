/- What is proved: contracts of functions of this translation, walked; their plain meaning. No condition beyond those that each theorem names. -/
import Derived.Test.YtjpaecoehajfdaaDoorOl2
set_option linter.all false
namespace Go.Ab
open Go Go.Proofs

theorem put_kind {v y : JV} {i : Nat} : (v.put i y).kind = v.kind := by
  rw [JV.put]; split
  · rename_i h; rw [h]; rfl
  · rfl
theorem grown_kind {v y : JV} {s : List UInt8} : (v.grown s y).kind = v.kind := by
  rw [JV.grown]; split
  · rename_i h; rw [h]; rfl
  · rfl
theorem put_items {v y : JV} {i : Nat} (h : knownP v) : (v.put i y).items = v.items.set i y := by
  by_cases hk : v.kind = 6
  · rw [put6 h hk]; rfl
  · rw [put5 hk]; rfl
theorem grown_items {v y : JV} {s : List UInt8} (h : knownP v) : (v.grown s y).items = v.items ++ [y] := by
  by_cases hk : v.kind = 6
  · rw [grown6 h hk]; rfl
  · rw [grown5 hk]; rfl
theorem child_put {v y : JV} {i : Nat} {t : List UInt8} (h : knownP v) (hy : knownP y) : (v.put i y).child t = v.child t := by
  by_cases hk : v.kind = 6
  · have hn : (v.put i y).names = v.names := by rw [put6 h hk]; rfl
    by_cases hm : t ∈ v.names
    · obtain ⟨j, hj1, hj2⟩ := List.getElem_of_mem hm
      have q : v.names[j]? = some t := by rw [List.getElem?_eq_getElem hj1, hj2]
      rw [child_at h hk q, child_at (known_put h hy) (put_kind.trans hk) (by rw [hn]; exact q)]
    · rw [child_no hk hm, child_no (put_kind.trans hk) (by rw [hn]; exact hm)]
  · unfold JV.child
    rw [put_kind, put_items h, List.length_set, if_neg hk, if_neg hk]
def valS (v : JV) (s : List UInt8) : Prop := v.kind = 6 ∨ (v.kind = 5 ∧ idxOk s = true ∧ idx s ≤ v.items.length)
theorem new_ix {v : JV} {s : List UInt8} (hk : ¬ v.kind = 6) (hv : valS v s) (hc : v.child s < 0) : v.kind = 5 ∧ idxOk s = true ∧ idx s = v.items.length := by
  rcases hv with h | ⟨h1, h2, h3⟩
  · exact absurd h hk
  · refine ⟨h1, h2, ?_⟩
    rcases Nat.lt_or_ge (idx s) v.items.length with q | q
    · rw [child_ix h1 h2 (by omega)] at hc; omega
    · omega
theorem child_grown {v y : JV} {s : List UInt8} (h : knownP v) (hy : knownP y) (hv : valS v s) (hc : v.child s < 0) : (v.grown s y).child s = (v.items.length : Nat) := by
  by_cases hk : v.kind = 6
  · have hn : (v.grown s y).names = v.names ++ [s] := by rw [grown6 h hk]; rfl
    have hl := known_len h hk
    exact child_at (known_grown h hc hy) (grown_kind.trans hk) (by rw [hn, List.getElem?_append_right (by omega), ← hl, Nat.sub_self]; rfl)
  · obtain ⟨h1, h2, h3⟩ := new_ix hk hv hc
    rw [child_ix (grown_kind.trans h1) h2 (by rw [grown_items h]; simp; omega), h3]
theorem child_grown_ne {v y : JV} {s t : List UInt8} (h : knownP v) (hy : knownP y) (hv : valS v s) (hc : v.child s < 0) (hne : t ≠ s) (hi : ¬ v.kind = 6 → idx t ≠ idx s) : (v.grown s y).child t = v.child t := by
  by_cases hk : v.kind = 6
  · have hn : (v.grown s y).names = v.names ++ [s] := by rw [grown6 h hk]; rfl
    by_cases hm : t ∈ v.names
    · obtain ⟨j, hj1, hj2⟩ := List.getElem_of_mem hm
      have q : v.names[j]? = some t := by rw [List.getElem?_eq_getElem hj1, hj2]
      rw [child_at h hk q, child_at (known_grown h hc hy) (grown_kind.trans hk) (by rw [hn, List.getElem?_append_left hj1]; exact q)]
    · rw [child_no hk hm, child_no (grown_kind.trans hk) (by rw [hn]; simp [hm, hne])]
  · obtain ⟨h1, h2, h3⟩ := new_ix hk hv hc
    have hi' := hi hk
    unfold JV.child
    rw [grown_kind, grown_items h, if_neg hk, if_neg hk]
    by_cases q : v.kind = 5 ∧ idxOk t = true ∧ (idx t : Int) < v.items.length
    · rw [if_pos q, if_pos ⟨q.1, q.2.1, by simp; omega⟩]
    · rw [if_neg q, if_neg (fun r => q ⟨r.1, r.2.1, by have := r.2.2; simp at this; omega⟩)]
end Go.Ab

