/- What is proved: contracts of functions of this translation, walked; their plain meaning. No condition beyond those that each theorem names. -/
import Derived.Test.YtjpaecoehajfdaaDoorOl2
set_option linter.all false
namespace Go.Ab
open Go Go.Proofs

theorem put_kind {v y : JV} {i : Nat} : (v.put i y).kind = v.kind := by
  rw [JV.put]; split
  · rename_i h; rw [h]; rfl
  · rfl
theorem grown_kind {v y : JV} {s : List UInt8} : (v.grown s y).kind = v.kind := by
  rw [JV.grown]; split
  · rename_i h; rw [h]; rfl
  · rfl
theorem put_items {v y : JV} {i : Nat} (h : knownP v) : (v.put i y).items = v.items.set i y := by
  by_cases hk : v.kind = 6
  · rw [put6 h hk]; rfl
  · rw [put5 hk]; rfl
theorem grown_items {v y : JV} {s : List UInt8} (h : knownP v) : (v.grown s y).items = v.items ++ [y] := by
  by_cases hk : v.kind = 6
  · rw [grown6 h hk]; rfl
  · rw [grown5 hk]; rfl
theorem put_put {v a b : JV} {i : Nat} (h : knownP v) (ha : knownP a) : (v.put i a).put i b = v.put i b := by
  by_cases hk : v.kind = 6
  · rw [put6 (known_put h ha) (put_kind.trans hk), put_items h, put6 h hk, put6 h hk]
    simp only [JV.names, JV.hd, List.set_set]
  · rw [put5 (by rw [put_kind]; exact hk), put_items h, put5 hk, put5 hk]
    simp only [JV.kind, JV.hd, List.set_set]
theorem put_grown {v a b : JV} {s : List UInt8} (h : knownP v) (hc : v.child s < 0) (ha : knownP a) : (v.grown s a).put v.items.length b = v.grown s b := by
  by_cases hk : v.kind = 6
  · rw [put6 (known_grown h hc ha) (grown_kind.trans hk), grown_items h, grown6 h hk, grown6 h hk]
    simp [JV.names, JV.hd, List.set_append]
  · rw [put5 (by rw [grown_kind]; exact hk), grown_items h, grown5 hk, grown5 hk]
    simp [JV.kind, JV.hd, List.set_append]
theorem child_put {v y : JV} {i : Nat} {t : List UInt8} (h : knownP v) (hy : knownP y) : (v.put i y).child t = v.child t := by
  by_cases hk : v.kind = 6
  · have hn : (v.put i y).names = v.names := by rw [put6 h hk]; rfl
    by_cases hm : t ∈ v.names
    · obtain ⟨j, hj1, hj2⟩ := List.getElem_of_mem hm
      have q : v.names[j]? = some t := by rw [List.getElem?_eq_getElem hj1, hj2]
      rw [child_at h hk q, child_at (known_put h hy) (put_kind.trans hk) (by rw [hn]; exact q)]
    · rw [child_no hk hm, child_no (put_kind.trans hk) (by rw [hn]; exact hm)]
  · unfold JV.child
    rw [put_kind, put_items h, List.length_set, if_neg hk, if_neg hk]
def valS (v : JV) (s : List UInt8) : Prop := v.kind = 6 ∨ (v.kind = 5 ∧ idxOk s = true ∧ idx s ≤ v.items.length)
theorem new_ix {v : JV} {s : List UInt8} (hk : ¬ v.kind = 6) (hv : valS v s) (hc : v.child s < 0) : v.kind = 5 ∧ idxOk s = true ∧ idx s = v.items.length := by
  rcases hv with h | ⟨h1, h2, h3⟩
  · exact absurd h hk
  · refine ⟨h1, h2, ?_⟩
    rcases Nat.lt_or_ge (idx s) v.items.length with q | q
    · rw [child_ix h1 h2 (by omega)] at hc; omega
    · omega
theorem child_grown {v y : JV} {s : List UInt8} (h : knownP v) (hy : knownP y) (hv : valS v s) (hc : v.child s < 0) : (v.grown s y).child s = (v.items.length : Nat) := by
  by_cases hk : v.kind = 6
  · have hn : (v.grown s y).names = v.names ++ [s] := by rw [grown6 h hk]; rfl
    have hl := known_len h hk
    exact child_at (known_grown h hc hy) (grown_kind.trans hk) (by rw [hn, List.getElem?_append_right (by omega), ← hl, Nat.sub_self]; rfl)
  · obtain ⟨h1, h2, h3⟩ := new_ix hk hv hc
    rw [child_ix (grown_kind.trans h1) h2 (by rw [grown_items h]; simp; omega), h3]
theorem child_grown_ne {v y : JV} {s t : List UInt8} (h : knownP v) (hy : knownP y) (hv : valS v s) (hc : v.child s < 0) (hne : t ≠ s) (hi : ¬ v.kind = 6 → idx t ≠ idx s) : (v.grown s y).child t = v.child t := by
  by_cases hk : v.kind = 6
  · have hn : (v.grown s y).names = v.names ++ [s] := by rw [grown6 h hk]; rfl
    by_cases hm : t ∈ v.names
    · obtain ⟨j, hj1, hj2⟩ := List.getElem_of_mem hm
      have q : v.names[j]? = some t := by rw [List.getElem?_eq_getElem hj1, hj2]
      rw [child_at h hk q, child_at (known_grown h hc hy) (grown_kind.trans hk) (by rw [hn, List.getElem?_append_left hj1]; exact q)]
    · rw [child_no hk hm, child_no (grown_kind.trans hk) (by rw [hn]; simp [hm, hne])]
  · obtain ⟨h1, h2, h3⟩ := new_ix hk hv hc
    have hi' := hi hk
    unfold JV.child
    rw [grown_kind, grown_items h, if_neg hk, if_neg hk]
    by_cases q : v.kind = 5 ∧ idxOk t = true ∧ (idx t : Int) < v.items.length
    · rw [if_pos q, if_pos ⟨q.1, q.2.1, by simp; omega⟩]
    · rw [if_neg q, if_neg (fun r => q ⟨r.1, r.2.1, by have := r.2.2; simp at this; omega⟩)]
theorem sim_put {v z w : JV} {i : Nat} (h : knownP v) (hz : knownP z) (hw : knownP w) (hs : Sim z w) : Sim (v.put i z) (v.put i w) := by
  have hit : ∀ (j : Nat) (x y : JV), (v.items.set i z)[j]? = some x → (v.items.set i w)[j]? = some y → Sim x y := fun j x y h1 h2 => by
    rw [List.getElem?_set] at h1 h2
    split at h1
    · rename_i e
      rw [if_pos e] at h2
      split at h1
      · rename_i e2
        rw [if_pos e2] at h2
        cases h1; cases h2; exact hs
      · cases h1
    · rename_i e
      rw [if_neg e] at h2
      rw [h1] at h2; cases h2
      exact sim_refl _ x (Nat.lt_succ_self _) (known_item h h1)
  have hn : (v.put i z).names = (v.put i w).names := by
    by_cases hk : v.kind = 6
    · rw [put6 h hk, put6 h hk]; rfl
    · rw [put5 hk, put5 hk]; rfl
  have hi : (v.put i z).int = (v.put i w).int := by
    by_cases hk : v.kind = 6
    · rw [put6 h hk, put6 h hk]; rfl
    · rw [put5 hk, put5 hk]; rfl
  have ht : (v.put i z).text = (v.put i w).text := by
    by_cases hk : v.kind = 6
    · rw [put6 h hk, put6 h hk]; rfl
    · rw [put5 hk, put5 hk]; rfl
  refine .mk (put_kind.trans put_kind.symm) hi ht (by rw [put_items h, put_items h, List.length_set, List.length_set]) (by rw [hn]) (fun _ s => by rw [hn]) (fun _ a b s x y q1 q2 q3 q4 => ?_) (fun _ a x y q3 q4 => ?_)
  · rw [hn] at q1
    have := known_eq (known_put h hw) q1 q2
    subst this
    rw [put_items h] at q3 q4
    exact hit a x y q3 q4
  · rw [put_items h] at q3 q4
    exact hit a x y q3 q4
theorem sim_grown {v z w : JV} {s : List UInt8} (h : knownP v) (hc : v.child s < 0) (hz : knownP z) (hw : knownP w) (hs : Sim z w) : Sim (v.grown s z) (v.grown s w) := by
  have e1 := put_grown (a := w) (b := z) h hc hw
  have e2 := put_grown (a := w) (b := w) h hc hw
  have := sim_put (i := v.items.length) (known_grown h hc hw) hz hw hs
  rw [e1, e2] at this
  exact this
end Go.Ab

