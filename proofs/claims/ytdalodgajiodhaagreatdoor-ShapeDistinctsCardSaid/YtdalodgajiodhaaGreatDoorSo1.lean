/- What is proved: contracts of functions of this translation, walked; their plain meaning. No condition beyond those that each theorem names. -/
set_option linter.all false
namespace Go.Ac
section
variable {α : Type} (lt : α → α → Bool)
def insS (x : α) : List α → List α
  | [] => [x]
  | y :: l => if lt y x = true then y :: insS x l else x :: y :: l
def sortS : List α → List α
  | [] => []
  | x :: l => insS lt x (sortS l)
def mgS : List α → List α → List α
  | [], R => R
  | x :: L, [] => x :: L
  | x :: L, y :: R => if lt y x = true then y :: mgS (x :: L) R else x :: mgS L (y :: R)
termination_by L R => L.length + R.length
structure SWO : Prop where
  asym : ∀ x y, lt x y = true → lt y x = false
  ntr : ∀ x y z, lt x y = false → lt y z = false → lt x z = false
def srtd (l : List α) : Prop := l.Pairwise fun x y => lt y x = false
variable {lt}
theorem mg_nil (L : List α) : mgS lt L [] = L := by cases L <;> rw [mgS]
theorem nil_mg (R : List α) : mgS lt [] R = R := by rw [mgS]
theorem mg_cons (x y : α) (L R : List α) : mgS lt (x :: L) (y :: R) = if lt y x = true then y :: mgS lt (x :: L) R else x :: mgS lt L (y :: R) := by rw [mgS]
theorem mg_len : ∀ (L R : List α), (mgS lt L R).length = L.length + R.length
  | [], R => by rw [nil_mg]; simp
  | x :: L, [] => by rw [mg_nil]; simp
  | x :: L, y :: R => by
    rw [mg_cons]
    split
    · rw [List.length_cons, mg_len (x :: L) R]; simp only [List.length_cons]; omega
    · rw [List.length_cons, mg_len L (y :: R)]; simp only [List.length_cons]; omega
termination_by L R => L.length + R.length
theorem ins_len (x : α) : ∀ l : List α, (insS lt x l).length = l.length + 1
  | [] => rfl
  | y :: l => by rw [insS]; split <;> simp [ins_len x l]
theorem sort_len : ∀ l : List α, (sortS lt l).length = l.length
  | [] => rfl
  | x :: l => by rw [sortS, ins_len, sort_len l]; rfl
theorem SWO.tr (h : SWO lt) {x y z : α} (h1 : lt x y = true) (h2 : lt y z = true) : lt x z = true := by
  cases e : lt x z with
  | true => rfl
  | false => rw [h.ntr x z y e (h.asym _ _ h2)] at h1; cases h1
theorem SWO.lt_of_lt_le (h : SWO lt) {x y z : α} (h1 : lt x y = true) (h2 : lt z y = false) : lt x z = true := by
  cases e : lt x z with
  | true => rfl
  | false => rw [h.ntr x z y e h2] at h1; cases h1
theorem SWO.lt_of_le_lt (h : SWO lt) {x y z : α} (h1 : lt y x = false) (h2 : lt y z = true) : lt x z = true := by
  cases e : lt x z with
  | true => rfl
  | false => rw [h.ntr y x z h1 e] at h2; cases h2
theorem ins_mg (h : SWO lt) (x : α) : ∀ (L R : List α), insS lt x (mgS lt L R) = mgS lt (insS lt x L) R
  | [], [] => by rw [mg_nil, mg_nil]
  | [], z :: R => by
    rw [nil_mg, insS, insS, mg_cons]
    split
    · have := ins_mg h x [] R
      rw [nil_mg, insS] at this
      rw [this]
    · rw [nil_mg]
  | y :: L, [] => by rw [mg_nil, mg_nil]
  | y :: L, z :: R => by
    rw [mg_cons]
    by_cases h1 : lt z y = true
    · have ih := ins_mg h x (y :: L) R
      rw [if_pos h1, insS, insS]
      by_cases h2 : lt y x = true
      · rw [if_pos (h.tr h1 h2), if_pos h2, mg_cons, if_pos h1, ih, insS, if_pos h2]
      · rw [if_neg h2, mg_cons, ih, insS, if_neg h2, mg_cons, if_pos h1]
    · rw [if_neg h1, insS, insS]
      by_cases h2 : lt y x = true
      · rw [if_pos h2, if_pos h2, ins_mg h x L (z :: R), mg_cons, if_neg h1]
      · have h3 : ¬ lt z x = true := by
          rw [h.ntr z y x (by simpa using h1) (by simpa using h2)]; simp
        rw [if_neg h2, if_neg h2, mg_cons, if_neg h3, mg_cons, if_neg h1]
termination_by L R => L.length + R.length
theorem sort_app (h : SWO lt) (B : List α) : ∀ A : List α, sortS lt (A ++ B) = mgS lt (sortS lt A) (sortS lt B)
  | [] => by rw [List.nil_append, sortS, nil_mg]
  | x :: A => by rw [List.cons_append, sortS, sort_app h B A, sortS, ins_mg h]
theorem ins_mem (x : α) : ∀ (l : List α) (z : α), z ∈ insS lt x l ↔ z = x ∨ z ∈ l
  | [], z => by simp [insS]
  | y :: l, z => by
    rw [insS]
    split
    · simp only [List.mem_cons, ins_mem x l z]
      constructor
      · rintro (h | h | h) <;> simp [h]
      · rintro (h | h | h) <;> simp [h]
    · simp
theorem sort_mem : ∀ (l : List α) (z : α), z ∈ sortS lt l ↔ z ∈ l
  | [], z => by simp [sortS]
  | x :: l, z => by rw [sortS, ins_mem, sort_mem l, List.mem_cons]
theorem ins_srtd (h : SWO lt) (x : α) : ∀ l : List α, srtd lt l → srtd lt (insS lt x l)
  | [], _ => by simp [insS, srtd]
  | y :: l, hs => by
    unfold srtd at hs ⊢
    rw [List.pairwise_cons] at hs
    rw [insS]
    split
    · rename_i h1
      rw [List.pairwise_cons]
      refine ⟨fun z hz => ?_, ins_srtd h x l hs.2⟩
      rcases (ins_mem x l z).1 hz with rfl | hz
      · exact h.asym _ _ h1
      · exact hs.1 z hz
    · rename_i h1
      have h1' : lt y x = false := by simpa using h1
      rw [List.pairwise_cons, List.pairwise_cons]
      refine ⟨fun z hz => ?_, hs⟩
      rcases List.mem_cons.1 hz with rfl | hz
      · exact h1'
      · exact h.ntr _ _ _ (hs.1 z hz) h1'
theorem sort_srtd (h : SWO lt) : ∀ l : List α, srtd lt (sortS lt l)
  | [] => List.Pairwise.nil
  | x :: l => ins_srtd h x _ (sort_srtd h l)
theorem mg_split : ∀ (L1 R1 L2 R2 : List α), (∀ x ∈ R1, ∀ y ∈ L2, lt x y = true) → (∀ x ∈ R2, ∀ y ∈ L1, lt x y = false) → mgS lt (L1 ++ L2) (R1 ++ R2) = mgS lt L1 R1 ++ mgS lt L2 R2
  | [], [], L2, R2, _, _ => by rw [mg_nil]; rfl
  | [], r :: R1, [], R2, _, _ => by rw [List.append_nil, nil_mg, nil_mg, nil_mg]
  | [], r :: R1, y :: L2, R2, h1, h2 => by
    rw [List.nil_append, List.cons_append, mg_cons, if_pos (h1 r (by simp) y (by simp)), nil_mg]
    have := mg_split [] R1 (y :: L2) R2 (fun a ha => h1 a (by simp [ha])) (fun a ha b hb => by cases hb)
    rw [List.nil_append, nil_mg] at this
    rw [this]; rfl
  | x :: L1, [], L2, [], _, _ => by rw [List.append_nil, mg_nil, mg_nil, mg_nil]
  | x :: L1, [], L2, z :: R2, h1, h2 => by
    have hz := h2 z (by simp) x (by simp)
    rw [List.nil_append, List.cons_append, mg_cons, if_neg (by rw [hz]; simp), mg_nil]
    have := mg_split L1 [] L2 (z :: R2) (fun a ha => by cases ha) (fun a ha b hb => h2 a ha b (by simp [hb]))
    rw [List.nil_append, mg_nil] at this
    rw [this]; rfl
  | x :: L1, r :: R1, L2, R2, h1, h2 => by
    rw [List.cons_append, List.cons_append, mg_cons, mg_cons]
    split
    · have := mg_split (x :: L1) R1 L2 R2 (fun a ha => h1 a (by simp [ha])) h2
      rw [List.cons_append] at this
      rw [this]; rfl
    · have := mg_split L1 (r :: R1) L2 R2 h1 (fun a ha b hb => h2 a ha b (by simp [hb]))
      rw [List.cons_append] at this
      rw [this]; rfl
termination_by L1 R1 => L1.length + R1.length
theorem srtd_app {A B : List α} (h : srtd lt (A ++ B)) : srtd lt A ∧ srtd lt B ∧ ∀ a ∈ A, ∀ b ∈ B, lt b a = false := List.pairwise_append.1 h
theorem mg_ahead (T : List α) (y : α) (h : ∀ x ∈ T, lt y x = false) : mgS lt T [y] = T ++ [y] := by
  have := mg_split (lt := lt) T [] [] [y] (fun a ha => by cases ha) (fun a ha b hb => by rw [List.mem_singleton.1 ha]; exact h b hb)
  rw [List.append_nil, List.nil_append, mg_nil, nil_mg] at this
  exact this
theorem mg_last (T : List α) (t y : α) (h : lt y t = true) : mgS lt (T ++ [t]) [y] = mgS lt T [y] ++ [t] := by
  have := mg_split (lt := lt) T [y] [t] [] (fun a ha b hb => by rw [List.mem_singleton.1 ha, List.mem_singleton.1 hb]; exact h) (fun a ha => by cases ha)
  rw [List.append_nil, mg_nil] at this
  exact this
theorem sort_one (y : α) : sortS lt [y] = [y] := rfl
theorem sort_snoc (h : SWO lt) (A : List α) (y : α) : sortS lt (A ++ [y]) = mgS lt (sortS lt A) [y] := by rw [sort_app h, sort_one]
inductive ChS (lt : α → α → Bool) (bs : Nat) : List α → List α → Prop
  | last (D : List α) : D.length ≤ bs → ChS lt bs D (sortS lt D)
  | more (A : List α) {B B' : List α} : A.length = bs → ChS lt bs B B' → ChS lt bs (A ++ B) (sortS lt A ++ B')
theorem ChS.len {bs : Nat} {D D' : List α} (h : ChS lt bs D D') : D'.length = D.length := by
  induction h with
  | last D _ => exact sort_len D
  | more A hA _ ih => rw [List.length_append, List.length_append, sort_len, ih]
theorem ChS.small {bs : Nat} {D D' : List α} (h : ChS lt bs D D') (hD : D.length ≤ bs) : D' = sortS lt D := by
  cases h with
  | last _ _ => rfl
  | more A hA hB =>
    rename_i B B'
    have hl := hB.len
    rw [List.length_append] at hD
    have : B = [] := List.length_eq_zero_iff.1 (by omega)
    subst this
    have : B' = [] := List.length_eq_zero_iff.1 (by simpa using hl)
    subst this
    rw [List.append_nil, List.append_nil]
end
end Go.Ac

