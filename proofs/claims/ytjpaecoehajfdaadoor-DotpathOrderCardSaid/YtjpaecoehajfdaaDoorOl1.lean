/- What is proved: contracts of functions of this translation, walked; their plain meaning. No condition beyond those that each theorem names. -/
import Derived.Test.YtjpaecoehajfdaaDoorTt27
import Derived.Test.YtjpaecoehajfdaaDoorCn
set_option linter.all false
namespace Go.Ab
open Go Go.Proofs

/-- Two documents alike, up to the order of names. -/
inductive Sim : JV → JV → Prop where
  | mk {a b : JV} (hk : a.kind = b.kind) (hi : a.int = b.int) (ht : a.text = b.text) (hl : a.items.length = b.items.length) (hn : a.names.length = b.names.length)
    (hs : b.kind = 6 → ∀ s, s ∈ a.names ↔ s ∈ b.names)
    (ho : b.kind = 6 → ∀ (i j : Nat) (s : List UInt8) (x y : JV), a.names[i]? = some s → b.names[j]? = some s → a.items[i]? = some x → b.items[j]? = some y → Sim x y)
    (hx : ¬ b.kind = 6 → ∀ (i : Nat) (x y : JV), a.items[i]? = some x → b.items[i]? = some y → Sim x y) : Sim a b

theorem known_eq {v : JV} {s : List UInt8} {i j : Nat} (h : knownP v) (hi : v.names[i]? = some s) (hj : v.names[j]? = some s) : i = j := by
  have h2 := ((knownP_iff v).1 h).2.1
  rcases Nat.lt_trichotomy i j with h1 | h1 | h1
  · exact absurd (hj.trans hi.symm) (h2 j i h1 (get_lt hj))
  · exact h1
  · exact absurd (hi.trans hj.symm) (h2 i j h1 (get_lt hi))
theorem known_item {v x : JV} {i : Nat} (h : knownP v) (hx : v.items[i]? = some x) : knownP x := ((knownP_iff v).1 h).2.2 i x hx
theorem known_len {v : JV} (h : knownP v) (hk : v.kind = 6) : v.names.length = v.items.length := ((knownP_iff v).1 h).1 hk

theorem sim_refl : ∀ (n : Nat) (v : JV), sizeV v < n → knownP v → Sim v v
  | 0, _, h, _ => by omega
  | n + 1, v, h, hv => by
    refine .mk rfl rfl rfl rfl rfl (fun _ _ => Iff.rfl) (fun _ i j s x y h1 h2 h3 h4 => ?_) (fun _ i x y h1 h2 => ?_)
    · have := known_eq hv h1 h2
      subst this
      rw [h3] at h4; cases h4
      exact sim_refl n x (by have := sizeV_item h3; omega) (known_item hv h3)
    · rw [h1] at h2; cases h2
      exact sim_refl n x (by have := sizeV_item h1; omega) (known_item hv h1)

theorem sim_alike {a b : JV} (h : Sim a b) : knownP a → knownP b → AlikeR a b := by
  induction h with
  | @mk a b hk hi ht hl hn hs ho hx iho ihx =>
    intro ka kb
    classical
    by_cases h6 : b.kind = 6
    · have hla := known_len ka (hk.trans h6)
      have hlb := known_len kb h6
      have hex : ∀ i, i < a.items.length → ∃ j s, a.names[i]? = some s ∧ b.names[j]? = some s := fun i hi' => by
        obtain ⟨s, hs1⟩ := getOf (l := a.names) (i := i) (by omega)
        obtain ⟨j, hj1, hj2⟩ := List.getElem_of_mem ((hs h6 s).1 (List.mem_of_getElem? hs1))
        exact ⟨j, s, hs1, by rw [List.getElem?_eq_getElem hj1, hj2]⟩
      refine .mk (fun i => if h : ∃ j s, a.names[i]? = some s ∧ b.names[j]? = some s then Classical.choose h else i) hk hi ht hl hn (fun i hi' => ?_) (fun i x y h1 h2 => ?_)
      · have hx' := hex i hi'
        simp only [dif_pos hx', if_pos h6]
        obtain ⟨s, q1, q2⟩ := Classical.choose_spec hx'
        refine ⟨by have := get_lt q2; omega, s, q1, q2, fun k hk' q3 => ?_⟩
        have := known_eq kb q2 q3
        omega
      · have hx' := hex i (get_lt h1)
        simp only [dif_pos hx'] at h2
        obtain ⟨s, q1, q2⟩ := Classical.choose_spec hx'
        exact iho h6 i _ s x y q1 q2 h1 h2 (known_item ka h1) (known_item kb h2)
    · refine .mk (fun i => i) hk hi ht hl hn (fun i hi' => ?_) (fun i x y h1 h2 => ihx h6 i x y h1 h2 (known_item ka h1) (known_item kb h2))
      simp only [if_neg h6]
      exact ⟨by omega, trivial⟩

theorem child_at {v : JV} {s : List UInt8} {j : Nat} (h : knownP v) (hk : v.kind = 6) (hj : v.names[j]? = some s) : v.child s = (j : Nat) := by
  have hl := known_len h hk
  have hm : v.mem = v.names.length := by unfold JV.mem; split <;> omega
  rw [child_obj hk, JV.place, placeL_some s v.names v.mem 0 j (by have := get_lt hj; omega) hj (fun k hk' q => by have := known_eq h hj q; omega)]
  simp
theorem child_no {v : JV} {s : List UInt8} (hk : v.kind = 6) (hn : s ∉ v.names) : v.child s = -1 := by
  rw [child_obj hk, JV.place]
  exact placeL_none s v.names v.mem 0 fun k _ q => hn (List.mem_of_getElem? q)

theorem sim_child {a b : JV} (h : Sim a b) (ka : knownP a) (kb : knownP b) (s : List UInt8) : (a.child s < 0 ∧ b.child s < 0) ∨
    ∃ x y, ¬ a.child s < 0 ∧ ¬ b.child s < 0 ∧ a.items[(a.child s).toNat]? = some x ∧ b.items[(b.child s).toNat]? = some y ∧ Sim x y := by
  cases h with
  | mk hk hi ht hl hn hs ho hx =>
    by_cases h6 : b.kind = 6
    · by_cases hm : s ∈ b.names
      · right
        obtain ⟨j, hj1, hj2⟩ := List.getElem_of_mem hm
        obtain ⟨i, hi1, hi2⟩ := List.getElem_of_mem ((hs h6 s).2 hm)
        have q1 : a.names[i]? = some s := by rw [List.getElem?_eq_getElem hi1, hi2]
        have q2 : b.names[j]? = some s := by rw [List.getElem?_eq_getElem hj1, hj2]
        have e1 := child_at ka (hk.trans h6) q1
        have e2 := child_at kb h6 q2
        have l1 := known_len ka (hk.trans h6)
        have l2 := known_len kb h6
        obtain ⟨x, r1⟩ := getOf (l := a.items) (i := i) (by omega)
        obtain ⟨y, r2⟩ := getOf (l := b.items) (i := j) (by omega)
        rw [e1, e2]
        exact ⟨x, y, by omega, by omega, by simpa using r1, by simpa using r2, ho h6 i j s x y q1 q2 r1 r2⟩
      · left
        rw [child_no (hk.trans h6) (fun q => hm ((hs h6 s).1 q)), child_no h6 hm]
        omega
    · by_cases hc : b.kind = 5 ∧ idxOk s = true ∧ (idx s : Int) < b.items.length
      · right
        have e1 := child_ix (j := a) (s := s) (hk.trans hc.1) hc.2.1 (by rw [hl]; exact hc.2.2)
        have e2 := child_ix hc.1 hc.2.1 hc.2.2
        obtain ⟨x, r1⟩ := getOf (l := a.items) (i := idx s) (by omega)
        obtain ⟨y, r2⟩ := getOf (l := b.items) (i := idx s) (by omega)
        rw [e1, e2]
        exact ⟨x, y, by omega, by omega, by simpa using r1, by simpa using r2, hx h6 (idx s) x y r1 r2⟩
      · left
        rw [child_none h6 hc, child_none (by rw [hk]; exact h6) (by rw [hk, hl]; exact hc)]
        omega

theorem sim_getV : ∀ (q : List (List UInt8)) (a b : JV), Sim a b → knownP a → knownP b → (getV a q = none ∧ getV b q = none) ∨ ∃ x y, getV a q = some x ∧ getV b q = some y ∧ Sim x y ∧ knownP x ∧ knownP y
  | [], a, b, h, ka, kb => .inr ⟨a, b, by rw [getV], by rw [getV], h, ka, kb⟩
  | s :: q, a, b, h, ka, kb => by
    rcases sim_child h ka kb s with ⟨h1, h2⟩ | ⟨x, y, h1, h2, h3, h4, h5⟩
    · exact .inl ⟨getV_none h1, getV_none h2⟩
    · rw [getV_step (by omega) h3, getV_step (by omega) h4]
      exact sim_getV q x y h5 (known_item ka h3) (known_item kb h4)

theorem numL_snoc (l : List UInt8) (d : UInt8) (a : Nat) : numL (l ++ [d]) a = 10 * numL l a + (d.toNat - 48) := by rw [numL_append]; rfl
theorem zero_known : knownP JV.zero := by rw [knownP_iff]; exact ⟨fun h => rfl, (by intro a b _ h; cases h), (by intro i y h; cases h)⟩
end Go.Ab

