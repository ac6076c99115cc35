/- What is proved: contracts of functions of this translation, walked; their plain meaning. No condition beyond those that each theorem names. -/
import Derived.Test.YtjpaecoehajfdaaDoorOl1
set_option linter.all false
namespace Go.Ab
open Go Go.Proofs

theorem mem_known {v : JV} (h : knownP v) (hk : v.kind = 6) : v.mem = v.names.length ∧ v.mem = v.items.length := by
  have hl := known_len h hk
  unfold JV.mem; split <;> omega
theorem put6 {v y : JV} {i : Nat} (h : knownP v) (hk : v.kind = 6) : v.put i y = .mk ⟨6, 0, [], v.names⟩ (v.items.set i y) := by
  obtain ⟨h1, h2⟩ := mem_known h hk
  rw [JV.put, if_pos hk, take_all _ _ h1.symm, take_all _ _ h2.symm]
theorem grown6 {v y : JV} {s : List UInt8} (h : knownP v) (hk : v.kind = 6) : v.grown s y = .mk ⟨6, 0, [], v.names ++ [s]⟩ (v.items ++ [y]) := by
  obtain ⟨h1, h2⟩ := mem_known h hk
  rw [JV.grown, if_pos hk, take_all _ _ h1.symm, take_all _ _ h2.symm]
theorem put5 {v y : JV} {i : Nat} (hk : ¬ v.kind = 6) : v.put i y = .mk ⟨v.kind, 0, [], []⟩ (v.items.set i y) := by rw [JV.put, if_neg hk]
theorem grown5 {v y : JV} {s : List UInt8} (hk : ¬ v.kind = 6) : v.grown s y = .mk ⟨v.kind, 0, [], []⟩ (v.items ++ [y]) := by rw [JV.grown, if_neg hk]
theorem known_mk {h : JH} {l : List JV} : knownP (.mk h l) ↔ (h.kind = 6 → h.names.length = l.length) ∧ (∀ a b : Nat, b < a → a < h.names.length → h.names[a]? ≠ h.names[b]?) ∧ ∀ (i : Nat) (y : JV), l[i]? = some y → knownP y := by
  rw [knownP, knownPs_iff]

theorem known_put {v y : JV} {i : Nat} (h : knownP v) (hy : knownP y) : knownP (v.put i y) := by
  have hit : ∀ (j : Nat) (z : JV), (v.items.set i y)[j]? = some z → knownP z := fun j z hz => by
    rw [List.getElem?_set] at hz
    split at hz
    · split at hz
      · cases hz; exact hy
      · cases hz
    · exact known_item h hz
  by_cases hk : v.kind = 6
  · rw [put6 h hk, known_mk]
    exact ⟨fun _ => by simp only [List.length_set]; exact known_len h hk, ((knownP_iff v).1 h).2.1, hit⟩
  · rw [put5 hk, known_mk]
    exact ⟨fun q => absurd q hk, (by intro a b _ q; cases q), hit⟩
theorem not_mem_child {v : JV} {s : List UInt8} (h : knownP v) (hk : v.kind = 6) (hc : v.child s < 0) : s ∉ v.names := fun hm => by
  obtain ⟨j, hj1, hj2⟩ := List.getElem_of_mem hm
  rw [child_at h hk (by rw [List.getElem?_eq_getElem hj1, hj2])] at hc
  omega
theorem known_grown {v y : JV} {s : List UInt8} (h : knownP v) (hc : v.child s < 0) (hy : knownP y) : knownP (v.grown s y) := by
  have hit : ∀ (j : Nat) (z : JV), (v.items ++ [y])[j]? = some z → knownP z := fun j z hz => by
    rcases List.mem_append.1 (List.mem_of_getElem? hz) with q | q
    · obtain ⟨k, hk1, hk2⟩ := List.getElem_of_mem q
      exact known_item h (i := k) (by rw [List.getElem?_eq_getElem hk1, hk2])
    · rw [List.mem_singleton] at q; subst q; exact hy
  by_cases hk : v.kind = 6
  · rw [grown6 h hk, known_mk]
    have hn := not_mem_child h hk hc
    refine ⟨fun _ => by simp only [List.length_append, List.length_cons, List.length_nil]; have := known_len h hk; omega, fun a b hab ha q => ?_, hit⟩
    simp only [List.length_append, List.length_cons, List.length_nil] at ha
    rw [List.getElem?_append_left (by omega : b < v.names.length)] at q
    rcases Nat.lt_or_ge a v.names.length with h1 | h1
    · rw [List.getElem?_append_left h1] at q
      exact ((knownP_iff v).1 h).2.1 a b hab h1 q
    · have e : a = v.names.length := by omega
      subst e
      rw [List.getElem?_append_right (Nat.le_refl _), Nat.sub_self] at q
      exact hn (List.mem_of_getElem? q.symm)
  · rw [grown5 hk, known_mk]
    exact ⟨fun q => absurd q hk, (by intro a b _ q; cases q), hit⟩
theorem known_fresh : ∀ (p : List (List UInt8)) {x : JV}, knownP x → knownP (freshV p x)
  | [], x, h => h
  | s :: p, x, h => by
    rw [freshV, known_mk]
    refine ⟨fun _ => rfl, fun a b hab ha => ?_, fun i y hy => ?_⟩
    · simp only [List.length_cons, List.length_nil] at ha; omega
    · have := List.mem_of_getElem? hy
      rw [List.mem_singleton] at this; subst this
      exact known_fresh p h
/-- What a Set that goes well does: down a child, or a new one. -/
theorem setV_ok {v x : JV} {s : List UInt8} {p : List (List UInt8)} (h : (setV (s :: p) v x).2 = 0) :
    (v.kind = 6 ∨ (v.kind = 5 ∧ idxOk s = true ∧ idx s ≤ v.items.length)) ∧
    ((v.child s < 0 ∧ (setV (s :: p) v x).1 = v.grown s (freshV p x)) ∨
     ∃ u, ¬ v.child s < 0 ∧ v.items[(v.child s).toNat]? = some u ∧ (setV p u x).2 = 0 ∧ (setV (s :: p) v x).1 = v.put (v.child s).toNat (setV p u x).1) := by
  rw [setV] at h ⊢
  split at h
  · cases h
  · rename_i h1
    rw [if_neg h1]
    split at h
    · cases h
    · rename_i h2
      rw [if_neg h2]
      refine ⟨?_, ?_⟩
      · by_cases h6 : v.kind = 6
        · exact .inl h6
        · refine .inr ?_
          have h5 : v.kind = 5 ∧ idxOk s = true := Classical.byContradiction fun q => h1 ⟨h6, q⟩
          exact ⟨h5.1, h5.2, Nat.le_of_not_lt fun q => h2 ⟨h6, q⟩⟩
      · split at h
        · rename_i h3
          exact .inl ⟨h3, by rw [if_pos h3]⟩
        · rename_i h3
          obtain ⟨u, hu⟩ := child_get (j := v) (s := s) (by omega)
          refine .inr ⟨u, h3, hu, ?_, ?_⟩
          · rw [hu] at h
            simp only at h
            split at h
            · assumption
            · exact h
          · rw [if_neg h3, hu]
            simp only
            rw [hu] at h
            simp only at h
            split at h
            · rename_i h4; rw [if_pos h4]
            · rename_i h4; exact absurd h h4
end Go.Ab

