/- What is proved: contracts of functions of this translation, walked; their plain meaning. No condition beyond those that each theorem names. -/
import Derived.Test.YtjpaecoehajfdaaDoorOl4
set_option linter.all false
namespace Go.Ab
open Go Go.Proofs

theorem numL_ge : ∀ (l : List UInt8) (a : Nat), a ≤ numL l a
  | [], a => Nat.le_refl _
  | b :: l, a => by rw [numL]; have := numL_ge l (10 * a + (b.toNat - 48)); omega
def cn (s : List UInt8) : Prop := (∀ b ∈ s, 48 ≤ b.toNat ∧ b.toNat ≤ 57) ∧ (1 < s.length → (s.headD 0).toNat ≠ 48)
theorem cn_pos {s : List UInt8} (h : ∀ b ∈ s, 48 ≤ b.toNat ∧ b.toNat ≤ 57) (h1 : (s.headD 0).toNat ≠ 48) (hs : s ≠ []) : 1 ≤ numL s 0 := by
  cases s with
  | nil => exact absurd rfl hs
  | cons b l =>
    rw [numL]
    have h2 := numL_ge l (10 * 0 + (b.toNat - 48))
    have h3 := h b (by simp)
    simp only [List.headD_cons] at h1
    omega
theorem numL_inj : ∀ (n : Nat) (s t : List UInt8), s.length < n → cn s → cn t → s ≠ [] → t ≠ [] → numL s 0 = numL t 0 → s = t
  | 0, _, _, h, _, _, _, _, _ => by omega
  | n + 1, s, t, hn, cs, ct, hs, ht, he => by
    obtain ⟨s', d, rfl⟩ : ∃ s' d, s = s' ++ [d] := ⟨s.dropLast, s.getLast hs, (List.dropLast_concat_getLast hs).symm⟩
    obtain ⟨t', e, rfl⟩ : ∃ t' e, t = t' ++ [e] := ⟨t.dropLast, t.getLast ht, (List.dropLast_concat_getLast ht).symm⟩
    rw [numL_snoc, numL_snoc] at he
    have hd := cs.1 d (by simp)
    have he' := ct.1 e (by simp)
    have e1 : d = e := UInt8.toNat_inj.1 (by omega)
    have e2 : numL s' 0 = numL t' 0 := by omega
    subst e1
    have hds : ∀ b ∈ s', 48 ≤ b.toNat ∧ b.toNat ≤ 57 := fun b hb => cs.1 b (by simp [hb])
    have hdt : ∀ b ∈ t', 48 ≤ b.toNat ∧ b.toNat ≤ 57 := fun b hb => ct.1 b (by simp [hb])
    have hh : ∀ l : List UInt8, l ≠ [] → (l ++ [d]).headD 0 = l.headD 0 := fun l hl => by
      cases l with
      | nil => exact absurd rfl hl
      | cons x l => rfl
    have hp : ∀ l : List UInt8, l ≠ [] → cn (l ++ [d]) → (l.headD 0).toNat ≠ 48 := fun l hl hc => by
      rw [← hh l hl]
      refine hc.2 ?_
      cases l with
      | nil => exact absurd rfl hl
      | cons x l => simp
    by_cases q1 : s' = []
    · subst q1
      by_cases q2 : t' = []
      · subst q2; rfl
      · have := cn_pos hdt (hp t' q2 ct) q2
        rw [← e2] at this
        exact absurd this (by decide)
    · by_cases q2 : t' = []
      · subst q2
        have := cn_pos hds (hp s' q1 cs) q1
        rw [e2] at this
        exact absurd this (by decide)
      · rw [numL_inj n s' t' (by simp at hn; omega) ⟨hds, fun _ => hp s' q1 cs⟩ ⟨hdt, fun _ => hp t' q2 ct⟩ q1 q2 e2]
theorem idxOk_cn {s : List UInt8} (h : idxOk s = true) : cn s ∧ s ≠ [] := by
  unfold idxOk at h
  simp only [Bool.and_eq_true, decide_eq_true_eq, Bool.not_eq_true', Bool.and_eq_false_iff, decide_eq_false_iff_not, List.all_eq_true, dig] at h
  obtain ⟨⟨⟨h1, h2⟩, h3⟩, h4⟩ := h
  refine ⟨⟨fun b hb => h4 b hb, fun q => ?_⟩, by rintro rfl; simp at h1⟩
  rcases h3 with h3 | h3
  · exact absurd q h3
  · exact h3
theorem idx_inj {s t : List UInt8} (h1 : idxOk s = true) (h2 : idxOk t = true) (h : idx s = idx t) : s = t := by
  unfold idx at h
  rw [if_pos h1, if_pos h2] at h
  obtain ⟨a, b⟩ := idxOk_cn h1
  obtain ⟨c, d⟩ := idxOk_cn h2
  exact numL_inj _ s t (Nat.lt_succ_self _) a c b d h

/-- Two names that differ stand at places that differ. -/
theorem child_ne {v : JV} {s t : List UInt8} (h : knownP v) (hs : valS v s) (ht : valS v t) (hne : s ≠ t) (h1 : ¬ v.child s < 0) : v.child s ≠ v.child t := fun e => by
  by_cases hk : v.kind = 6
  · by_cases m1 : s ∈ v.names
    · by_cases m2 : t ∈ v.names
      · obtain ⟨i, hi1, hi2⟩ := List.getElem_of_mem m1
        obtain ⟨j, hj1, hj2⟩ := List.getElem_of_mem m2
        have q1 : v.names[i]? = some s := by rw [List.getElem?_eq_getElem hi1, hi2]
        have q2 : v.names[j]? = some t := by rw [List.getElem?_eq_getElem hj1, hj2]
        rw [child_at h hk q1, child_at h hk q2] at e
        have : i = j := by omega
        subst this
        rw [q1] at q2; cases q2; exact hne rfl
      · rw [child_no hk m2] at e; omega
    · rw [child_no hk m1] at h1; omega
  · rcases hs with q | ⟨a1, a2, a3⟩
    · exact hk q
    · rcases ht with q | ⟨b1, b2, b3⟩
      · exact hk q
      · have n1 : (idx s : Int) < v.items.length := Classical.byContradiction fun q => h1 (by rw [child_none hk (fun r => q r.2.2)]; omega)
        rw [child_ix a1 a2 n1] at e
        have n2 : (idx t : Int) < v.items.length := Classical.byContradiction fun q => by rw [child_none hk (fun r => q r.2.2)] at e; omega
        rw [child_ix b1 b2 n2] at e
        exact hne (idx_inj a2 b2 (by omega))
end Go.Ab

