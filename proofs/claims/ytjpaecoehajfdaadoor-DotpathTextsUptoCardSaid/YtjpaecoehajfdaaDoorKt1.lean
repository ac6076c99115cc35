/- What is proved: contracts of functions of this translation, walked; their plain meaning. No condition beyond those that each theorem names. -/
import Derived.Test.YtjpaecoehajfdaaDoorTt10
set_option linter.all false
namespace Go.Ab
open Go Go.Proofs Go.RowKit

theorem indexByte_at (c : UInt8) : ∀ (l : List UInt8) (m : Nat), l[m]? = some c → (∀ k, k < m → l[k]? ≠ some c) → Lib.indexByte l c = (m : Int)
  | [], m, h, _ => by simp at h
  | x :: l, 0, h, _ => by
    have h : x = c := by simpa using h
    simp [Lib.indexByte, h]
  | x :: l, m + 1, h, hn => by
    have h0 : ¬ x = c := fun e => hn 0 (by omega) (by simp [e])
    have ih := indexByte_at c l m (by simpa using h) fun k hk => by have := hn (k + 1) (by omega); simpa using this
    simp only [Lib.indexByte, h0, beq_iff_eq, if_false, ih]
    split <;> omega
theorem scan_head (s : List UInt8) (p : List (List UInt8)) {a i j : Nat} (ha : a ≤ i) (hi : i ≤ s.length) (hsp : splitD 46 (s.drop a) = p.drop j) (hno : ∀ k, a ≤ k → k < i → s[k]? ≠ some 46) (hend : i = s.length ∨ s[i]? = some 46) :
    p[j]? = some (List.drop a (List.take i s)) ∧ (List.drop a (List.take i s)).length = i - a ∧ (i = s.length → j + 1 = p.length) ∧ (s[i]? = some 46 → splitD 46 (s.drop (i + 1)) = p.drop (j + 1)) := by
  have hlen : (List.drop a (List.take i s)).length = i - a := by simp only [List.length_drop, List.length_take]; omega
  have hdt : List.drop a (List.take i s) = (s.drop a).take (i - a) := by rw [List.drop_take]
  rcases hend with he | he
  · have hneg : Lib.indexByte (s.drop a) 46 < 0 := (indexByte_neg 46 _).2 fun hm => by
      obtain ⟨k, hk⟩ := List.getElem?_of_mem hm
      rw [List.getElem?_drop] at hk
      have := (List.getElem?_eq_some_iff.1 hk).1
      exact hno (a + k) (by omega) (by omega) hk
    have e1 := splitD_one 46 _ hneg
    have e2 := hsp.symm.trans e1
    refine ⟨?_, hlen, fun _ => ?_, fun h => ?_⟩
    · have := congrArg List.head? e2
      rw [List.head?_drop] at this
      rw [this, hdt, List.take_of_length_le (by simp only [List.length_drop]; omega)]; rfl
    · have := congrArg List.length e2
      simp only [List.length_drop, List.length_cons, List.length_nil] at this; omega
    · have := (List.getElem?_eq_some_iff.1 h).1; omega
  · have hil := (List.getElem?_eq_some_iff.1 he).1
    have hat : Lib.indexByte (s.drop a) 46 = ((i - a : Nat) : Int) := indexByte_at 46 _ _ (by rw [List.getElem?_drop]; rw [show a + (i - a) = i by omega]; exact he) fun k hk => by
      rw [List.getElem?_drop]; exact hno (a + k) (by omega) (by omega)
    obtain ⟨e1, _⟩ := splitD_cut 46 _ _ hat
    have e2 := hsp.symm.trans e1
    refine ⟨?_, hlen, fun h => by omega, fun _ => ?_⟩
    · have := congrArg List.head? e2
      rw [List.head?_drop] at this
      rw [this, hdt]; rfl
    · have := congrArg List.tail e2
      rw [List.tail_drop, List.tail_cons, List.drop_drop] at this
      rw [this]; congr 2; omega
def ScanI (s : List UInt8) (p : List (List UInt8)) (q : Nat × Nat × Nat) : Prop :=
  (q.1 ≤ s.length ∧ q.2.1 ≤ q.1 ∧ splitD 46 (s.drop q.2.1) = p.drop q.2.2 ∧ (∀ k, q.2.1 ≤ k → k < q.1 → s[k]? ≠ some 46) ∧ scanV p 0 0 = scanV (p.drop q.2.2) q.2.2 q.2.1) ∨ (q.1 = s.length + 1 ∧ q.2.2 = p.length ∧ scanV p 0 0 = none)

/-- A round behind a byte that is no dot. -/
theorem scanI_byte {s : List UInt8} {p : List (List UInt8)} {i a j : Nat} (h : ScanI s p (i, a, j)) (hi : i < s.length) (hne : s[i]? ≠ some 46) : ScanI s p (i + 1, a, j) := by
  rcases h with ⟨_, h2, h3, h4, h5⟩ | ⟨h1, _, _⟩
  case inr => simp only at h1; omega
  simp only at h2 h3 h4 h5
  exact .inl ⟨by simp only; omega, by simp only; omega, h3, fun k k1 k2 => by
    simp only at k1 k2
    by_cases e : k = i
    · subst e; exact hne
    · exact h4 k k1 (by omega), h5⟩
/-- At a segment's end: what the segment is; and what follows where it is taken. -/
theorem scanI_seg {s : List UInt8} {p : List (List UInt8)} {i a j : Nat} (h : ScanI s p (i, a, j)) (hi : i ≤ s.length) (hend : i = s.length ∨ s[i]? = some 46) :
    a ≤ i ∧ p[j]? = some (List.drop a (List.take i s)) ∧ (List.drop a (List.take i s)).length = i - a ∧ scanV p 0 0 = scanV (p.drop j) j a ∧
    (¬ (segB (List.drop a (List.take i s)) = false ∨ j = 16) → ScanI s p (i + 1, i + 1, j + 1)) := by
  rcases h with ⟨_, h2, h3, h4, h5⟩ | ⟨h1, _, _⟩
  case inr => simp only at h1; omega
  simp only at h2 h3 h4 h5
  obtain ⟨g1, g2, g3, g4⟩ := scan_head s p h2 hi h3 h4 hend
  refine ⟨h2, g1, g2, h5, fun hok => ?_⟩
  have hst := scan_step (t := (a : Int)) g1 hok
  rcases hend with he | he
  · have hj1 := g3 he
    refine .inr ⟨by simp only; omega, hj1, ?_⟩
    rw [h5, hst, hj1, List.drop_length]; rfl
  · have := (List.getElem?_eq_some_iff.1 he).1
    refine .inl ⟨by simp only; omega, Nat.le_refl _, g4 he, fun k k1 k2 => by simp only at k1 k2; omega, ?_⟩
    rw [h5, hst]
    simp only; congr 1; omega
end Go.Ab

