/- What is proved: contracts of functions of this translation, walked; their plain meaning. No condition beyond those that each theorem names. -/
import Derived.Test.YtjpaecoehajfdaaDoorOl3
set_option linter.all false
namespace Go.Ab
open Go Go.Proofs

def EJ : JV := .mk ⟨6, 0, [], []⟩ []
theorem known_EJ : knownP EJ := by rw [EJ, known_mk]; exact ⟨fun _ => rfl, (by intro a b _ q; cases q), (by intro i y q; cases q)⟩
theorem set_EJ (t : List UInt8) (r : List (List UInt8)) (x : JV) : setV (t :: r) EJ x = (freshV (t :: r) x, 0) := by
  rw [setV_grow_obj rfl (by rw [child_no rfl (by intro h; cases h)]; omega), freshV]; rfl

theorem put_comm {v a b : JV} {i j : Nat} (h : knownP v) (ha : knownP a) (hb : knownP b) (hij : i ≠ j) : (v.put i a).put j b = (v.put j b).put i a := by
  by_cases hk : v.kind = 6
  · rw [put6 (known_put h ha) (put_kind.trans hk), put6 (known_put h hb) (put_kind.trans hk), put_items h, put_items h, put6 h hk, put6 h hk]
    simp only [JV.names, JV.hd]
    rw [List.set_comm _ _ hij]
  · rw [put5 (by rw [put_kind]; exact hk), put5 (v := v.put j b) (by rw [put_kind]; exact hk), put_items h, put_items h, put_kind, put_kind]
    rw [List.set_comm _ _ hij]
theorem put_grown_comm {v a b : JV} {i : Nat} {t : List UInt8} (h : knownP v) (ha : knownP a) (hb : knownP b) (hc : v.child t < 0) (hi : i < v.items.length) : (v.put i a).grown t b = (v.grown t b).put i a := by
  by_cases hk : v.kind = 6
  · rw [grown6 (known_put h ha) (put_kind.trans hk), put6 (known_grown h hc hb) (grown_kind.trans hk), put_items h, grown_items h, put6 h hk, grown6 h hk]
    simp only [JV.names, JV.hd]
    rw [List.set_append, if_pos hi]
  · rw [grown5 (by rw [put_kind]; exact hk), put5 (v := v.grown t b) (by rw [grown_kind]; exact hk), put_items h, grown_items h, put_kind, grown_kind]
    rw [List.set_append, if_pos hi]
theorem grown_grown {v a b : JV} {s t : List UInt8} (h : knownP v) (ha : knownP a) (hb : knownP b) (hs : v.child s < 0) (ht : v.child t < 0) (hk : v.kind = 6) (hne : s ≠ t) :
    Sim ((v.grown s a).grown t b) ((v.grown t b).grown s a) := by
  have c1 : (v.grown s a).child t < 0 := by rw [child_grown_ne h ha (.inl hk) hs (Ne.symm hne) (fun q => absurd hk q)]; exact ht
  have c2 : (v.grown t b).child s < 0 := by rw [child_grown_ne h hb (.inl hk) ht hne (fun q => absurd hk q)]; exact hs
  have k1 := known_grown h hs ha
  have k2 := known_grown h ht hb
  have k3 := known_grown k1 c1 hb
  have k4 := known_grown k2 c2 ha
  have e1 : (v.grown s a).grown t b = .mk ⟨6, 0, [], (v.names ++ [s]) ++ [t]⟩ ((v.items ++ [a]) ++ [b]) := by
    rw [grown6 k1 (grown_kind.trans hk), grown_items h, grown6 h hk]; rfl
  have e2 : (v.grown t b).grown s a = .mk ⟨6, 0, [], (v.names ++ [t]) ++ [s]⟩ ((v.items ++ [b]) ++ [a]) := by
    rw [grown6 k2 (grown_kind.trans hk), grown_items h, grown6 h hk]; rfl
  have hl := known_len h hk
  rw [e1] at k3
  rw [e2] at k4
  rw [e1, e2]
  have len1 : ((v.names ++ [s]) ++ [t]).length = v.names.length + 2 := by simp
  -- where a name stands, on both sides
  have at1 : ∀ (i : Nat) (u : List UInt8) (x : JV), ((v.names ++ [s]) ++ [t])[i]? = some u → ((v.items ++ [a]) ++ [b])[i]? = some x → ∃ j, ((v.names ++ [t]) ++ [s])[j]? = some u ∧ ((v.items ++ [b]) ++ [a])[j]? = some x := fun i u x h1 h2 => by
    have hi := get_lt h1
    rw [len1] at hi
    rcases Nat.lt_trichotomy i v.names.length with q | q | q
    · refine ⟨i, ?_, ?_⟩
      · rw [List.append_assoc, List.getElem?_append_left q] at h1 ⊢; exact h1
      · rw [List.append_assoc, List.getElem?_append_left (by omega)] at h2 ⊢; exact h2
    · subst q
      refine ⟨v.names.length + 1, ?_, ?_⟩
      · rw [List.append_assoc, List.getElem?_append_right (Nat.le_refl _), Nat.sub_self] at h1
        rw [List.append_assoc, List.getElem?_append_right (by omega), Nat.add_sub_cancel_left]; exact h1
      · rw [List.append_assoc, List.getElem?_append_right (by omega), hl, Nat.sub_self] at h2
        rw [List.append_assoc, List.getElem?_append_right (by omega), hl, Nat.add_sub_cancel_left]; exact h2
    · have e : i = v.names.length + 1 := by omega
      subst e
      refine ⟨v.names.length, ?_, ?_⟩
      · rw [List.append_assoc, List.getElem?_append_right (by omega), Nat.add_sub_cancel_left] at h1
        rw [List.append_assoc, List.getElem?_append_right (Nat.le_refl _), Nat.sub_self]; exact h1
      · rw [List.append_assoc, List.getElem?_append_right (by omega), hl, Nat.add_sub_cancel_left] at h2
        rw [List.append_assoc, List.getElem?_append_right (by omega), hl, Nat.sub_self]; exact h2
  refine .mk rfl rfl rfl (by simp [JV.items]) (by simp [JV.names, JV.hd]) (fun _ u => ?_) (fun _ i j u x y h1 h2 h3 h4 => ?_) (fun q => absurd rfl q)
  · simp only [JV.names, JV.hd, List.mem_append, List.mem_singleton]
    constructor <;> (rintro ((q | q) | q) <;> simp [q])
  · obtain ⟨j', r1, r2⟩ := at1 i u x h1 h3
    have := known_eq k4 (i := j') (j := j) r1 h2
    subst this
    have h4' : ((v.items ++ [b]) ++ [a])[j']? = some y := h4
    rw [r2] at h4'
    cases h4'
    exact sim_refl _ x (Nat.lt_succ_self _) (known_item k3 h3)
end Go.Ab

