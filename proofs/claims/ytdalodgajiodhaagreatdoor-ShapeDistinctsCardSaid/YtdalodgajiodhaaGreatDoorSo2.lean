/- What is proved: contracts of functions of this translation, walked; their plain meaning. No condition beyond those that each theorem names. -/
import Derived.Test.YtdalodgajiodhaaGreatDoorSo1
set_option linter.all false
namespace Go.Ac
section
variable {α : Type} (lt : α → α → Bool)
def swapL (D : List α) (i j : Nat) : List α := match D[i]?, D[j]? with | some x, some y => (D.set i y).set j x | _, _ => D
def ltAt (D : List α) (i j : Nat) : Bool := match D[i]?, D[j]? with | some x, some y => lt x y | _, _ => false
def insJ (a : Nat) : Nat → List α → List α
  | 0, D => D
  | j + 1, D => if a < j + 1 ∧ ltAt lt D (j + 1) j = true then insJ a j (swapL D (j + 1) j) else D
def insO (a : Nat) : Nat → Nat → List α → List α
  | 0, _, D => D
  | k + 1, i, D => insO a k (i + 1) (insJ lt a i D)
def swpG (a b : Nat) : Nat → Nat → List α → List α
  | 0, _, D => D
  | k + 1, i, D => swpG a b k (i + 1) (swapL D (a + i) (b + i))
def rotG (m : Nat) : Nat → Nat → Nat → List α → List α
  | 0, _, _, D => D
  | f + 1, i, j, D => if i = j then swpG (m - i) m i 0 D else if j < i then rotG m f (i - j) j (swpG (m - i) m j 0 D) else rotG m f i (j - i) (swpG (m - i) (m + j - i) i 0 D)
def bsG (p : Nat → Bool) : Nat → Nat → Nat → Nat
  | 0, i, _ => i
  | f + 1, i, j => if i < j then (if p ((i + j) / 2) = true then bsG p f ((i + j) / 2 + 1) j else bsG p f i ((i + j) / 2)) else i
def upG : Nat → Nat → List α → List α
  | 0, _, D => D
  | k + 1, i, D => upG k (i + 1) (swapL D i (i + 1))
def dnG : Nat → Nat → List α → List α
  | 0, _, D => D
  | k + 1, i, D => dnG k (i - 1) (swapL D i (i - 1))
def symM : Nat → Nat → Nat → Nat → List α → List α
  | 0, _, _, _, D => D
  | f + 1, a, m, b, D =>
    if m - a = 1 then upG (bsG (fun h => ltAt lt D h a) b m b - 1 - a) a D
    else if b - m = 1 then dnG (m - bsG (fun h => !ltAt lt D m h) b a m) m D
    else
      let mid := (a + b) / 2
      let n := mid + m
      let st := bsG (fun c => !ltAt lt D (n - 1 - c) c) b (if mid < m then n - b else a) (if mid < m then mid else m)
      let en := n - st
      let D1 := if st < m ∧ m < en then rotG m b (m - st) (en - m) D else D
      let D2 := if a < st ∧ st < mid then symM f a st mid D1 else D1
      if mid < en ∧ en < b then symM f mid en b D2 else D2
def blkG (n : Nat) : Nat → Nat → List α → Nat × List α
  | 0, a, D => (a, D)
  | f + 1, a, D => if a + 20 ≤ n then blkG n f (a + 20) (insO lt a (20 - 1) (a + 1) D) else (a, D)
def mrgG (n bs : Nat) : Nat → Nat → List α → Nat × List α
  | 0, a, D => (a, D)
  | f + 1, a, D => if a + 2 * bs ≤ n then mrgG n bs f (a + 2 * bs) (symM lt n a (a + bs) (a + 2 * bs) D) else (a, D)
def lvlG (n bs : Nat) (D : List α) : List α :=
  let r := mrgG lt n bs n 0 D
  if r.1 + bs < n then symM lt n r.1 (r.1 + bs) n r.2 else r.2
def mrgO (n : Nat) : Nat → Nat → List α → List α
  | 0, _, D => D
  | f + 1, bs, D => if bs < n then mrgO n f (bs * 2) (lvlG lt n bs D) else D
def stabG (D : List α) : List α :=
  let r := blkG lt D.length D.length 0 D
  mrgO lt D.length D.length 20 (insO lt r.1 (D.length - (r.1 + 1)) (r.1 + 1) r.2)
variable {lt}
theorem swapL_len (D : List α) (i j : Nat) : (swapL D i j).length = D.length := by unfold swapL; split <;> simp
theorem get_mid {P S : List α} {x : α} {i : Nat} (h : i = P.length) : (P ++ x :: S)[i]? = some x := by subst h; simp
theorem set_mid {P S : List α} {x y : α} {i : Nat} (h : i = P.length) : (P ++ x :: S).set i y = P ++ y :: S := by subst h; simp
theorem swap_mid {P Q S : List α} {x y : α} {i j : Nat} (hi : i = P.length) (hj : j = P.length + 1 + Q.length) : swapL (P ++ x :: (Q ++ y :: S)) i j = P ++ y :: (Q ++ x :: S) := by
  have h1 : (P ++ x :: (Q ++ y :: S))[i]? = some x := get_mid hi
  have e : ∀ z, P ++ z :: (Q ++ y :: S) = (P ++ z :: Q) ++ y :: S := fun z => by simp
  have hl : ∀ z, (P ++ z :: Q).length = P.length + 1 + Q.length := fun z => by simp only [List.length_append, List.length_cons]; omega
  have h2 : (P ++ x :: (Q ++ y :: S))[j]? = some y := by rw [e]; exact get_mid (by rw [hl]; exact hj)
  unfold swapL
  rw [h1, h2]
  simp only
  rw [set_mid hi, e, set_mid (by rw [hl]; exact hj)]
  simp
theorem swap_flip {P Q S : List α} {x y : α} {i j : Nat} (hi : i = P.length) (hj : j = P.length + 1 + Q.length) : swapL (P ++ x :: (Q ++ y :: S)) j i = P ++ y :: (Q ++ x :: S) := by
  have h1 : (P ++ x :: (Q ++ y :: S))[i]? = some x := get_mid hi
  have e : ∀ z, P ++ z :: (Q ++ y :: S) = (P ++ z :: Q) ++ y :: S := fun z => by simp
  have hl : ∀ z, (P ++ z :: Q).length = P.length + 1 + Q.length := fun z => by simp only [List.length_append, List.length_cons]; omega
  have h2 : (P ++ x :: (Q ++ y :: S))[j]? = some y := by rw [e]; exact get_mid (by rw [hl]; exact hj)
  unfold swapL
  rw [h1, h2]
  simp only
  have e2 : (P ++ x :: Q) ++ x :: S = P ++ x :: (Q ++ x :: S) := by simp
  rw [e, set_mid (by rw [hl]; exact hj), e2, set_mid hi]
theorem ltAt_eq {D : List α} {i j : Nat} {x y : α} (hx : D[i]? = some x) (hy : D[j]? = some y) : ltAt lt D i j = lt x y := by unfold ltAt; rw [hx, hy]
theorem insJ_ok (h : SWO lt) : ∀ (n : Nat) (P T S : List α) (y : α) (a j : Nat), T.length = n → a = P.length → j = a + T.length → srtd lt T → insJ lt a j (P ++ (T ++ y :: S)) = P ++ (mgS lt T [y] ++ S) := by
  intro n
  induction n with
  | zero =>
    intro P T S y a j hn ha hj _
    obtain rfl := List.length_eq_zero_iff.1 hn
    simp only [List.length_nil, Nat.add_zero] at hj
    rw [nil_mg]
    cases j with
    | zero => rw [insJ]; rfl
    | succ j => rw [insJ, if_neg (by omega)]; rfl
  | succ n ih =>
    intro P T S y a j hn ha hj hs
    obtain ⟨T', t, rfl⟩ : ∃ T' t, T = T' ++ [t] := by
      rcases List.eq_nil_or_concat T with rfl | ⟨T', t, rfl⟩
      · simp at hn
      · exact ⟨T', t, by simp⟩
    have hl : (T' ++ [t]).length = T'.length + 1 := by simp
    rw [hl] at hn hj
    obtain ⟨j, rfl⟩ : ∃ k, j = k + 1 := ⟨j - 1, by omega⟩
    have e : P ++ ((T' ++ [t]) ++ y :: S) = (P ++ T') ++ t :: ([] ++ y :: S) := by simp
    have hpl : (P ++ T').length = a + T'.length := by simp; omega
    have g1 : ((P ++ T') ++ t :: ([] ++ y :: S))[j]? = some t := get_mid (by omega)
    have g2 : ((P ++ T') ++ t :: ([] ++ y :: S))[j + 1]? = some y := by
      rw [show (P ++ T') ++ t :: ([] ++ y :: S) = ((P ++ T') ++ [t]) ++ y :: S by simp]
      exact get_mid (by simp; omega)
    have hsT := srtd_app hs
    rw [insJ, e, ltAt_eq g2 g1]
    by_cases hlt : lt y t = true
    · rw [if_pos ⟨by omega, hlt⟩, swap_flip (by omega) (by simp; omega)]
      rw [show P ++ T' ++ y :: ([] ++ t :: S) = P ++ (T' ++ y :: (t :: S)) by simp]
      rw [ih P T' (t :: S) y a j (by omega) ha (by omega) hsT.1, mg_last T' t y hlt]
      simp
    · rw [if_neg (by rintro ⟨_, q⟩; exact hlt q)]
      rw [mg_ahead]
      · simp
      · intro x hx
        have hyt : lt y t = false := by simpa using hlt
        rcases List.mem_append.1 hx with hx | hx
        · have := hsT.2.2 x hx t (by simp)
          exact h.ntr y t x hyt this
        · rw [List.mem_singleton.1 hx]; exact hyt
theorem insO_ok (h : SWO lt) (S : List α) (P : List α) (a : Nat) (ha : a = P.length) : ∀ (X A : List α) (i : Nat), i = a + A.length → insO lt a X.length i (P ++ (sortS lt A ++ (X ++ S))) = P ++ (sortS lt (A ++ X) ++ S)
  | [], A, i, hi => by rw [List.length_nil, insO, List.append_nil]; rfl
  | y :: X, A, i, hi => by
    rw [List.length_cons, insO]
    have := insJ_ok h _ P (sortS lt A) (X ++ S) y a i rfl ha (by rw [sort_len]; exact hi) (sort_srtd h A)
    rw [List.cons_append, this, ← sort_snoc h]
    have := insO_ok h S P a ha X (A ++ [y]) (i + 1) (by rw [List.length_append]; simp; omega)
    rw [this]
    simp
theorem ins_blk (h : SWO lt) (P X S : List α) (a k i : Nat) (ha : a = P.length) (hk : k = X.length - 1) (hi : i = a + 1) : insO lt a k i (P ++ (X ++ S)) = P ++ (sortS lt X ++ S) := by
  cases X with
  | nil => simp only [List.length_nil, Nat.zero_sub] at hk; subst hk; rw [insO]; rfl
  | cons x X =>
    have := insO_ok h S P a ha X [x] i (by simpa using hi)
    simp only [List.length_cons, Nat.add_sub_cancel] at hk
    rw [hk]
    simpa [sort_one] using this
theorem swpG_ok (S : List α) : ∀ (X Y P Q : List α) (a b i : Nat), X.length = Y.length → a + i = P.length → b + i = P.length + X.length + Q.length → swpG a b X.length i (P ++ (X ++ (Q ++ (Y ++ S)))) = P ++ (Y ++ (Q ++ (X ++ S)))
  | [], Y, P, Q, a, b, i, hl, ha, hb => by
    obtain rfl : Y = [] := List.length_eq_zero_iff.1 hl.symm
    rw [List.length_nil, swpG]
  | x :: X, [], P, Q, a, b, i, hl, ha, hb => by cases hl
  | x :: X, y :: Y, P, Q, a, b, i, hl, ha, hb => by
    rw [List.length_cons, swpG]
    simp only [List.length_cons] at hl hb
    have e : P ++ ((x :: X) ++ (Q ++ ((y :: Y) ++ S))) = P ++ x :: ((X ++ Q) ++ y :: (Y ++ S)) := by simp
    rw [e, swap_mid ha (by rw [List.length_append]; omega)]
    have := swpG_ok S X Y (P ++ [y]) (Q ++ [x]) a b (i + 1) (by omega) (by rw [List.length_append]; simp; omega) (by rw [List.length_append, List.length_append]; simp; omega)
    rw [show P ++ y :: (X ++ Q ++ x :: (Y ++ S)) = (P ++ [y]) ++ (X ++ ((Q ++ [x]) ++ (Y ++ S))) by simp, this]
    simp
theorem take_drop_len {U : List α} {n : Nat} (h : n ≤ U.length) : ∃ A B, U = A ++ B ∧ A.length = n ∧ B.length = U.length - n := ⟨U.take n, U.drop n, (List.take_append_drop n U).symm, by simp; omega, by simp⟩
theorem rotG_ok (m : Nat) : ∀ (f : Nat) (P U V S : List α) (i j : Nat), i = U.length → j = V.length → m = P.length + i → 0 < i → 0 < j → i + j ≤ f + 1 → 0 < f → rotG m f i j (P ++ (U ++ (V ++ S))) = P ++ (V ++ (U ++ S)) := by
  intro f
  induction f with
  | zero => intro P U V S i j _ _ _ _ _ _ h; omega
  | succ f ih =>
    intro P U V S i j hi hj hm h0 h1 hf _
    rw [rotG]
    by_cases e : i = j
    · rw [if_pos e]
      have := swpG_ok S U V P [] (m - i) m 0 (by omega) (by omega) (by simp; omega)
      rw [← hi] at this
      simpa using this
    · rw [if_neg e]
      by_cases e2 : j < i
      · rw [if_pos e2]
        obtain ⟨A, B, rfl, hA, hB⟩ := take_drop_len (U := U) (n := j) (by omega)
        rw [List.length_append] at hi hB
        have := swpG_ok S A V P B (m - i) m 0 (by omega) (by omega) (by simp; omega)
        rw [hA] at this
        rw [show P ++ ((A ++ B) ++ (V ++ S)) = P ++ (A ++ (B ++ (V ++ S))) by simp, this]
        have := ih (P ++ V) B A S (i - j) j (by omega) (by omega) (by rw [List.length_append]; omega) (by omega) (by omega) (by omega) (by omega)
        rw [show P ++ (V ++ (B ++ (A ++ S))) = (P ++ V) ++ (B ++ (A ++ S)) by simp, this]
        simp
      · rw [if_neg e2]
        obtain ⟨A, B, rfl, hA, hB⟩ := take_drop_len (U := V) (n := j - i) (by omega)
        rw [List.length_append] at hj hB
        have := swpG_ok S U B P A (m - i) (m + j - i) 0 (by omega) (by omega) (by omega)
        rw [← hi] at this
        rw [show P ++ (U ++ ((A ++ B) ++ S)) = P ++ (U ++ (A ++ (B ++ S))) by simp, this]
        have := ih P B A (U ++ S) i (j - i) (by omega) (by omega) (by omega) (by omega) (by omega) (by omega) (by omega)
        rw [this]
        simp
theorem bsG_ok (p : Nat → Bool) : ∀ (f i j : Nat), j ≤ f + i → i ≤ j → ∃ k, bsG p f i j = k ∧ i ≤ k ∧ k ≤ j ∧ (k < j → p k = false) ∧ (i < k → p (k - 1) = true) := by
  intro f
  induction f with
  | zero => intro i j h1 h2; exact ⟨i, rfl, Nat.le_refl _, h2, fun h => by omega, fun h => by omega⟩
  | succ f ih =>
    intro i j h1 h2
    rw [bsG]
    by_cases h : i < j
    · rw [if_pos h]
      by_cases q : p ((i + j) / 2) = true
      · rw [if_pos q]
        obtain ⟨k, g1, g2, g3, g4, g5⟩ := ih ((i + j) / 2 + 1) j (by omega) (by omega)
        refine ⟨k, g1, by omega, g3, g4, fun hk => ?_⟩
        by_cases hh : (i + j) / 2 + 1 < k
        · exact g5 hh
        · have : k - 1 = (i + j) / 2 := by omega
          rw [this]; exact q
      · rw [if_neg q]
        obtain ⟨k, g1, g2, g3, g4, g5⟩ := ih i ((i + j) / 2) (by omega) (by omega)
        refine ⟨k, g1, g2, by omega, fun hk => ?_, g5⟩
        by_cases hh : k < (i + j) / 2
        · exact g4 hh
        · have : k = (i + j) / 2 := by omega
          rw [this]; simpa using q
    · rw [if_neg h]
      exact ⟨i, rfl, Nat.le_refl _, h2, fun h' => by omega, fun h' => by omega⟩
theorem upG_ok (x : α) (S : List α) : ∀ (A P : List α) (i : Nat), i = P.length → upG A.length i (P ++ x :: (A ++ S)) = P ++ (A ++ x :: S)
  | [], P, i, hi => by rw [List.length_nil, upG]; rfl
  | y :: A, P, i, hi => by
    rw [List.length_cons, upG]
    have : swapL (P ++ x :: ((y :: A) ++ S)) i (i + 1) = P ++ y :: x :: (A ++ S) := by
      have := swap_mid (P := P) (Q := []) (S := A ++ S) (x := x) (y := y) (i := i) (j := i + 1) hi (by simp; omega)
      simpa using this
    rw [this, show P ++ y :: x :: (A ++ S) = (P ++ [y]) ++ x :: (A ++ S) by simp, upG_ok x S A (P ++ [y]) (i + 1) (by simp; omega)]
    simp
theorem dnG_ok (x : α) (P : List α) : ∀ (n : Nat) (A S : List α) (i : Nat), A.length = n → i = P.length + A.length → dnG n i (P ++ (A ++ x :: S)) = P ++ x :: (A ++ S) := by
  intro n
  induction n with
  | zero =>
    intro A S i h _
    obtain rfl := List.length_eq_zero_iff.1 h
    rw [dnG]; rfl
  | succ n ih =>
    intro A S i h hi
    obtain ⟨A', t, rfl⟩ : ∃ T' t, A = T' ++ [t] := by
      rcases List.eq_nil_or_concat A with rfl | ⟨T', t, rfl⟩
      · simp at h
      · exact ⟨T', t, by simp⟩
    have hl : (A' ++ [t]).length = A'.length + 1 := by simp
    rw [hl] at h hi
    rw [dnG]
    have : swapL (P ++ ((A' ++ [t]) ++ x :: S)) i (i - 1) = P ++ (A' ++ x :: (t :: S)) := by
      have := swap_flip (P := P ++ A') (Q := []) (S := S) (x := t) (y := x) (i := i - 1) (j := i) (by simp; omega) (by simp; omega)
      simpa using this
    rw [this, ih A' (t :: S) (i - 1) (by omega) (by omega)]
    simp
end
end Go.Ac

