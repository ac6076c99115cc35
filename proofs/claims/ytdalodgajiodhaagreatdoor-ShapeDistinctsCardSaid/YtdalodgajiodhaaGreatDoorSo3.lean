/- What is proved: contracts of functions of this translation, walked; their plain meaning. No condition beyond those that each theorem names. -/
import Derived.Test.YtdalodgajiodhaaGreatDoorSo2
set_option linter.all false
namespace Go.Ac
section
variable {α : Type} {lt : α → α → Bool}
theorem last_of {l : List α} (h : l ≠ []) : ∃ A t, l = A ++ [t] := by
  rcases List.eq_nil_or_concat l with rfl | ⟨A, t, rfl⟩
  · exact absurd rfl h
  · exact ⟨A, t, by simp⟩
theorem le_last {A : List α} {t : α} (hw : SWO lt) (h : srtd lt (A ++ [t])) (x : α) (hx : x ∈ A ++ [t]) : lt t x = false := by
  rcases List.mem_append.1 hx with hx | hx
  · exact (srtd_app h).2.2 x hx t (by simp)
  · rw [List.mem_singleton.1 hx]
    cases e : lt t t with
    | false => rfl
    | true => exact (hw.asym t t e ▸ e).symm ▸ rfl
theorem ge_head {A : List α} {t : α} (hw : SWO lt) (h : srtd lt (t :: A)) (x : α) (hx : x ∈ t :: A) : lt x t = false := by
  rcases List.mem_cons.1 hx with rfl | hx
  · cases e : lt x x with
    | false => rfl
    | true => exact (hw.asym x x e ▸ e).symm ▸ rfl
  · exact (List.pairwise_cons.1 h).1 x hx
theorem symM_ok (hw : SWO lt) : ∀ (f : Nat) (P L R S : List α) (a m b : Nat), a = P.length → m = a + L.length → b = m + R.length → 0 < L.length → 0 < R.length → srtd lt L → srtd lt R → b - a ≤ f →
    symM lt f a m b (P ++ (L ++ (R ++ S))) = P ++ (mgS lt L R ++ S) := by
  intro f
  induction f with
  | zero => intro P L R S a m b h1 h2 h3 h4 h5 _ _ h6; omega
  | succ f ih =>
    intro P L R S a m b ha hm hb hL hR sL sR hf
    rw [symM]
    by_cases c1 : m - a = 1
    · rw [if_pos c1]
      obtain ⟨x, rfl⟩ : ∃ x, L = [x] := List.length_eq_one_iff.1 (by omega)
      simp only [List.length_cons, List.length_nil] at hm
      obtain ⟨k, hk, k1, k2, k3, k4⟩ := bsG_ok (fun h => ltAt lt (P ++ ([x] ++ (R ++ S))) h a) b m b (by omega) (by omega)
      rw [hk]
      obtain ⟨A, B, rfl, hA, hB⟩ := take_drop_len (U := R) (n := k - m) (by omega)
      rw [List.length_append] at hb hB
      have gx : (P ++ ([x] ++ ((A ++ B) ++ S)))[a]? = some x := by rw [List.singleton_append]; exact get_mid ha
      have sAB := srtd_app sR
      have hAx : ∀ r ∈ A, lt r x = true := by
        intro r hr
        obtain ⟨A', t, rfl⟩ := last_of (List.ne_nil_of_mem hr)
        have hl : (A' ++ [t]).length = A'.length + 1 := by simp
        have gt : (P ++ ([x] ++ (((A' ++ [t]) ++ B) ++ S)))[k - 1]? = some t := by
          rw [show P ++ ([x] ++ (((A' ++ [t]) ++ B) ++ S)) = (P ++ x :: A') ++ t :: (B ++ S) by simp]
          exact get_mid (by rw [List.length_append, List.length_cons]; omega)
        have := k4 (by omega)
        rw [ltAt_eq gt gx] at this
        exact hw.lt_of_le_lt (le_last hw sAB.1 r hr) this
      have hBx : ∀ z ∈ B, lt z x = false := by
        intro z hz
        cases B with
        | nil => cases hz
        | cons t B =>
          have gt : (P ++ ([x] ++ ((A ++ t :: B) ++ S)))[k]? = some t := by
            rw [show P ++ ([x] ++ ((A ++ t :: B) ++ S)) = (P ++ x :: A) ++ t :: (B ++ S) by simp]
            exact get_mid (by rw [List.length_append, List.length_cons]; omega)
          have := k3 (by simp only [List.length_cons] at hB hb; omega)
          rw [ltAt_eq gt gx] at this
          exact hw.ntr z t x (ge_head hw sAB.2.1 z hz) this
      have e1 := mg_split (lt := lt) [] A [x] B (fun r hr y hy => by rw [List.mem_singleton.1 hy]; exact hAx r hr) (fun z _ y hy => by cases hy)
      have e2 := mg_split (lt := lt) [x] [] [] B (fun r hr => by cases hr) (fun z hz y hy => by rw [List.mem_singleton.1 hy]; exact hBx z hz)
      rw [List.nil_append, List.append_nil, mg_nil, nil_mg] at e2
      rw [List.nil_append, nil_mg, e2] at e1
      rw [e1, show k - 1 - a = A.length by omega, show P ++ ([x] ++ ((A ++ B) ++ S)) = P ++ x :: (A ++ (B ++ S)) by simp, upG_ok x (B ++ S) A P a ha]
      simp
    rw [if_neg c1]
    by_cases c2 : b - m = 1
    · rw [if_pos c2]
      obtain ⟨y, rfl⟩ : ∃ x, R = [x] := List.length_eq_one_iff.1 (by omega)
      simp only [List.length_cons, List.length_nil] at hb
      obtain ⟨k, hk, k1, k2, k3, k4⟩ := bsG_ok (fun h => !ltAt lt (P ++ (L ++ ([y] ++ S))) m h) b a m (by omega) (by omega)
      rw [hk]
      obtain ⟨A, B, rfl, hA, hB⟩ := take_drop_len (U := L) (n := k - a) (by omega)
      rw [List.length_append] at hm hB
      have gy : (P ++ ((A ++ B) ++ ([y] ++ S)))[m]? = some y := by
        rw [show P ++ ((A ++ B) ++ ([y] ++ S)) = (P ++ (A ++ B)) ++ y :: S by simp]
        exact get_mid (by rw [List.length_append, List.length_append]; omega)
      have sAB := srtd_app sL
      have hBy : ∀ z ∈ B, lt y z = true := by
        intro z hz
        cases B with
        | nil => cases hz
        | cons t B =>
          have gt : (P ++ ((A ++ t :: B) ++ ([y] ++ S)))[k]? = some t := by
            rw [show P ++ ((A ++ t :: B) ++ ([y] ++ S)) = (P ++ A) ++ t :: (B ++ ([y] ++ S)) by simp]
            exact get_mid (by rw [List.length_append]; omega)
          have := k3 (by simp only [List.length_cons] at hB hm; omega)
          simp only [ltAt_eq gy gt, Bool.not_eq_false'] at this
          exact hw.lt_of_lt_le this (ge_head hw sAB.2.1 z hz)
      have hAy : ∀ x ∈ A, lt y x = false := by
        intro x hx
        obtain ⟨A', t, rfl⟩ := last_of (List.ne_nil_of_mem hx)
        have hl : (A' ++ [t]).length = A'.length + 1 := by simp
        have gt : (P ++ (((A' ++ [t]) ++ B) ++ ([y] ++ S)))[k - 1]? = some t := by
          rw [show P ++ (((A' ++ [t]) ++ B) ++ ([y] ++ S)) = (P ++ A') ++ t :: (B ++ ([y] ++ S)) by simp]
          exact get_mid (by rw [List.length_append]; omega)
        have := k4 (by omega)
        simp only [ltAt_eq gy gt, Bool.not_eq_true'] at this
        exact hw.ntr y t x this (le_last hw sAB.1 x hx)
      have e1 := mg_split (lt := lt) A [y] B [] (fun r hr z hz => by rw [List.mem_singleton.1 hr]; exact hBy z hz) (fun z hz => by cases hz)
      rw [List.append_nil, mg_nil, mg_ahead A y hAy] at e1
      rw [e1, show m - k = B.length by omega, show P ++ ((A ++ B) ++ ([y] ++ S)) = (P ++ A) ++ (B ++ y :: S) by simp, dnG_ok y (P ++ A) B.length B S m rfl (by rw [List.length_append]; omega)]
      simp
    rw [if_neg c2]
    dsimp only
    generalize hmid : (a + b) / 2 = mid
    generalize hst0 : (if mid < m then mid + m - b else a) = st0
    generalize hr0 : (if mid < m then mid else m) = r0
    have hb0 : a ≤ st0 ∧ st0 ≤ r0 ∧ r0 ≤ m ∧ mid + m ≤ st0 + b ∧ r0 ≤ mid := by
      split at hst0 <;> split at hr0 <;> omega
    obtain ⟨st, hst, s1, s2, s3, s4⟩ := bsG_ok (fun c => !ltAt lt (P ++ (L ++ (R ++ S))) (mid + m - 1 - c) c) b st0 r0 (by omega) (by omega)
    rw [hst]
    generalize hen : mid + m - st = en
    have he1 : m ≤ en ∧ en ≤ b := by omega
    obtain ⟨L1, L2, rfl, l1, l2⟩ := take_drop_len (U := L) (n := st - a) (by omega)
    obtain ⟨R1, R2, rfl, r1, r2⟩ := take_drop_len (U := R) (n := en - m) (by omega)
    rw [List.length_append] at hm hb hL hR l2 r2
    have sL' := srtd_app sL
    have sR' := srtd_app sR
    have hD : P ++ ((L1 ++ L2) ++ ((R1 ++ R2) ++ S)) = (P ++ L1) ++ (L2 ++ (R1 ++ (R2 ++ S))) := by simp
    have k1 : ∀ x ∈ R1, ∀ y ∈ L2, lt x y = true := by
      intro x hx y hy
      obtain ⟨R', t, rfl⟩ := last_of (List.ne_nil_of_mem hx)
      cases L2 with
      | nil => cases hy
      | cons u L2 =>
        have hl : (R' ++ [t]).length = R'.length + 1 := by simp
        simp only [List.length_cons] at hm l2
        have hlt : st < r0 := by
          split at hr0 <;> omega
        have gt : ((P ++ L1) ++ ((u :: L2) ++ ((R' ++ [t]) ++ (R2 ++ S))))[mid + m - 1 - st]? = some t := by
          rw [show (P ++ L1) ++ ((u :: L2) ++ ((R' ++ [t]) ++ (R2 ++ S))) = (P ++ L1 ++ u :: L2 ++ R') ++ t :: (R2 ++ S) by simp]
          exact get_mid (by simp only [List.length_append, List.length_cons]; omega)
        have gu : ((P ++ L1) ++ ((u :: L2) ++ ((R' ++ [t]) ++ (R2 ++ S))))[st]? = some u := by
          rw [List.cons_append]
          exact get_mid (by simp only [List.length_append]; omega)
        have := s3 hlt
        rw [hD] at this
        simp only [ltAt_eq gt gu, Bool.not_eq_false'] at this
        exact hw.lt_of_le_lt (le_last hw sR'.1 x hx) (hw.lt_of_lt_le this (ge_head hw sL'.2.1 y hy))
    have k2 : ∀ x ∈ R2, ∀ y ∈ L1, lt x y = false := by
      intro x hx y hy
      obtain ⟨L', t, rfl⟩ := last_of (List.ne_nil_of_mem hy)
      cases R2 with
      | nil => cases hx
      | cons u R2 =>
        have hl : (L' ++ [t]).length = L'.length + 1 := by simp
        simp only [List.length_cons] at hb r2
        have hlt : st0 < st := by
          split at hst0 <;> omega
        have gt : ((P ++ (L' ++ [t])) ++ (L2 ++ (R1 ++ ((u :: R2) ++ S))))[st - 1]? = some t := by
          rw [show (P ++ (L' ++ [t])) ++ (L2 ++ (R1 ++ ((u :: R2) ++ S))) = (P ++ L') ++ t :: (L2 ++ (R1 ++ ((u :: R2) ++ S))) by simp]
          exact get_mid (by simp only [List.length_append]; omega)
        have gu : ((P ++ (L' ++ [t])) ++ (L2 ++ (R1 ++ ((u :: R2) ++ S))))[mid + m - 1 - (st - 1)]? = some u := by
          rw [show (P ++ (L' ++ [t])) ++ (L2 ++ (R1 ++ ((u :: R2) ++ S))) = (P ++ (L' ++ [t]) ++ L2 ++ R1) ++ u :: (R2 ++ S) by simp]
          exact get_mid (by simp only [List.length_append, List.length_cons, List.length_nil] at *; omega)
        have := s4 hlt
        rw [hD] at this
        simp only [ltAt_eq gu gt, Bool.not_eq_true'] at this
        exact hw.ntr x t y (hw.ntr x u t (ge_head hw sR'.2.1 x hx) this) (le_last hw sL'.1 y hy)
    have hM := mg_split L1 R1 L2 R2 k1 k2
    have hD1 : (if st < m ∧ m < en then rotG m b (m - st) (en - m) (P ++ ((L1 ++ L2) ++ ((R1 ++ R2) ++ S))) else P ++ ((L1 ++ L2) ++ ((R1 ++ R2) ++ S))) = P ++ (L1 ++ (R1 ++ (L2 ++ (R2 ++ S)))) := by
      split
      · rw [hD, rotG_ok m b (P ++ L1) L2 R1 (R2 ++ S) (m - st) (en - m) (by omega) (by omega) (by rw [List.length_append]; omega) (by omega) (by omega) (by omega) (by omega)]
        simp
      · rename_i q
        by_cases q1 : st < m
        · obtain rfl : R1 = [] := List.length_eq_zero_iff.1 (by omega)
          simp
        · obtain rfl : L2 = [] := List.length_eq_zero_iff.1 (by omega)
          simp
    rw [hD1]
    have hD2 : (if a < st ∧ st < mid then symM lt f a st mid (P ++ (L1 ++ (R1 ++ (L2 ++ (R2 ++ S))))) else P ++ (L1 ++ (R1 ++ (L2 ++ (R2 ++ S))))) = P ++ (mgS lt L1 R1 ++ (L2 ++ (R2 ++ S))) := by
      split
      · exact ih P L1 R1 (L2 ++ (R2 ++ S)) a st mid ha (by omega) (by omega) (by omega) (by omega) sL'.1 sR'.1 (by omega)
      · rename_i q
        by_cases q1 : a < st
        · obtain rfl : R1 = [] := List.length_eq_zero_iff.1 (by omega)
          rw [mg_nil]; simp
        · obtain rfl : L1 = [] := List.length_eq_zero_iff.1 (by omega)
          rw [nil_mg]; simp
    rw [hD2]
    have hD3 : (if mid < en ∧ en < b then symM lt f mid en b (P ++ (mgS lt L1 R1 ++ (L2 ++ (R2 ++ S)))) else P ++ (mgS lt L1 R1 ++ (L2 ++ (R2 ++ S)))) = P ++ (mgS lt L1 R1 ++ (mgS lt L2 R2 ++ S)) := by
      split
      · have := ih (P ++ mgS lt L1 R1) L2 R2 S mid en b (by rw [List.length_append, mg_len]; omega) (by omega) (by omega) (by omega) (by omega) sL'.2.1 sR'.2.1 (by omega)
        rw [show P ++ (mgS lt L1 R1 ++ (L2 ++ (R2 ++ S))) = (P ++ mgS lt L1 R1) ++ (L2 ++ (R2 ++ S)) by simp, this]
        simp
      · rename_i q
        by_cases q1 : mid < en
        · obtain rfl : R2 = [] := List.length_eq_zero_iff.1 (by omega)
          rw [mg_nil]; simp
        · obtain rfl : L2 = [] := List.length_eq_zero_iff.1 (by omega)
          rw [nil_mg]; simp
    rw [hD3, hM]
    simp
theorem blkG_ok (hw : SWO lt) (n : Nat) : ∀ (f : Nat) (P B : List α) (a : Nat), a = P.length → n = P.length + B.length → B.length ≤ f → ∃ (A A' C : List α), blkG lt n f a (P ++ B) = (a + A.length, P ++ (A' ++ C)) ∧ B = A ++ C ∧ C.length < 20 ∧
    ∀ C', ChS lt 20 C C' → ChS lt 20 B (A' ++ C') ∧ A'.length = A.length := by
  intro f
  induction f with
  | zero =>
    intro P B a ha hn hf
    obtain rfl : B = [] := List.length_eq_zero_iff.1 (by omega)
    exact ⟨[], [], [], by rw [blkG]; simp, rfl, by simp, fun C' h => ⟨by simpa using h, rfl⟩⟩
  | succ f ih =>
    intro P B a ha hn hf
    rw [blkG]
    by_cases q : a + 20 ≤ n
    · rw [if_pos q]
      obtain ⟨X, C0, rfl, hX, hC0⟩ := take_drop_len (U := B) (n := 20) (by omega)
      rw [List.length_append] at hn hf
      rw [ins_blk hw P X C0 a (20 - 1) (a + 1) ha (by omega) rfl]
      obtain ⟨A, A', C, h1, h2, h3, h4⟩ := ih (P ++ sortS lt X) C0 (a + 20) (by rw [List.length_append, sort_len]; omega) (by rw [List.length_append, sort_len]; omega) (by omega)
      rw [show P ++ (sortS lt X ++ C0) = (P ++ sortS lt X) ++ C0 by simp, h1]
      refine ⟨X ++ A, sortS lt X ++ A', C, ?_, by rw [h2]; simp, h3, fun C' hC => ?_⟩
      · rw [List.length_append, hX, Nat.add_assoc]; simp
      · obtain ⟨g1, g2⟩ := h4 C' hC
        refine ⟨by rw [List.append_assoc]; exact .more X hX g1, by rw [List.length_append, List.length_append, sort_len, g2]⟩
    · rw [if_neg q]
      exact ⟨[], [], B, by simp, rfl, by omega, fun C' h => ⟨by simpa using h, rfl⟩⟩
theorem mrgG_ok (hw : SWO lt) (n bs : Nat) (hbs : 0 < bs) : ∀ (f : Nat) (P D D' : List α) (a : Nat), a = P.length → n = P.length + D.length → D.length ≤ f → ChS lt bs D D' → ∃ (A A' C C' : List α), mrgG lt n bs f a (P ++ D') = (a + A.length, P ++ (A' ++ C')) ∧ D = A ++ C ∧ C.length < 2 * bs ∧ ChS lt bs C C' ∧ A'.length = A.length ∧
    ∀ C2, ChS lt (bs * 2) C C2 → ChS lt (bs * 2) D (A' ++ C2) := by
  intro f
  induction f with
  | zero =>
    intro P D D' a ha hn hf h
    obtain rfl : D = [] := List.length_eq_zero_iff.1 (by omega)
    exact ⟨[], [], [], D', by rw [mrgG]; simp, rfl, by simp; omega, h, rfl, fun C' h => by simpa using h⟩
  | succ f ih =>
    intro P D D' a ha hn hf h
    rw [mrgG]
    by_cases q : a + 2 * bs ≤ n
    · rw [if_pos q]
      cases h with
      | last _ hD => omega
      | more A hA hB =>
        rename_i B B'
        rw [List.length_append] at hn hf
        obtain ⟨B1, C, B1', C', rfl, rfl, hB1, hC, hCC, hBl⟩ : ∃ B1 C B1' C', B = B1 ++ C ∧ B' = B1' ++ C' ∧ B1.length = bs ∧ ChS lt bs C C' ∧ B1' = sortS lt B1 ∧ B1'.length = bs := by
          cases hB with
          | last _ hD => exact ⟨B, [], sortS lt B, sortS lt [], by simp, by simp [sortS], by omega, .last [] (by simp), rfl, by rw [sort_len]; omega⟩
          | more B1 hB1 hC => exact ⟨B1, _, sortS lt B1, _, rfl, rfl, hB1, hC, rfl, by rw [sort_len]; exact hB1⟩
        subst hCC
        rw [List.length_append] at hn hf
        have := symM_ok hw n P (sortS lt A) (sortS lt B1) C' a (a + bs) (a + 2 * bs) ha (by rw [sort_len]; omega) (by rw [sort_len]; omega) (by rw [sort_len]; omega) (by rw [sort_len]; omega) (sort_srtd hw A) (sort_srtd hw B1) (by omega)
        rw [← sort_app hw] at this
        rw [show P ++ (sortS lt A ++ (sortS lt B1 ++ C')) = P ++ (sortS lt A ++ (sortS lt B1 ++ C')) from rfl, this]
        have hl : (sortS lt (A ++ B1)).length = 2 * bs := by rw [sort_len, List.length_append]; omega
        obtain ⟨A2, A2', C2, C2', g1, g2, g3, g4, g5, g6⟩ := ih (P ++ sortS lt (A ++ B1)) C C' (a + 2 * bs) (by rw [List.length_append, hl]; omega) (by rw [List.length_append, hl]; omega) (by omega) hC
        rw [show P ++ (sortS lt (A ++ B1) ++ C') = (P ++ sortS lt (A ++ B1)) ++ C' by simp, g1]
        refine ⟨A ++ B1 ++ A2, sortS lt (A ++ B1) ++ A2', C2, C2', ?_, by rw [g2]; simp, g3, g4, by rw [List.length_append, List.length_append (bs := A2), List.length_append, hl, g5]; omega, fun X hX => ?_⟩
        · have e : (A ++ B1 ++ A2).length = 2 * bs + A2.length := by rw [List.length_append, List.length_append]; omega
          rw [e]; simp [Nat.add_assoc]
        · rw [List.append_assoc, ← List.append_assoc A B1 C]
          exact .more (A ++ B1) (by rw [List.length_append]; omega) (g6 X hX)
    · rw [if_neg q]
      exact ⟨[], [], D, D', by simp, rfl, by omega, h, rfl, fun C' h => by simpa using h⟩
theorem lvlG_ok (hw : SWO lt) (bs : Nat) (hbs : 0 < bs) (D D' : List α) (h : ChS lt bs D D') : ChS lt (bs * 2) D (lvlG lt D.length bs D') := by
  unfold lvlG
  obtain ⟨A, A', C, C', g1, rfl, g3, g4, g5, g6⟩ := mrgG_ok hw D.length bs hbs D.length [] D D' 0 rfl (by simp) (Nat.le_refl _) h
  rw [List.nil_append, List.nil_append] at g1
  rw [g1]
  dsimp only
  rw [List.length_append, Nat.zero_add]
  by_cases q : A.length + bs < A.length + C.length
  · rw [if_pos q]
    cases g4 with
    | last _ hC => omega
    | more B hB hX =>
      rename_i X X'
      rw [List.length_append] at g3 q
      have := hX.small (by omega)
      subst this
      have := symM_ok hw (A.length + (B ++ X).length) A' (sortS lt B) (sortS lt X) [] A.length (A.length + bs) (A.length + (B ++ X).length) g5.symm (by rw [sort_len]; omega) (by rw [sort_len, List.length_append]; omega) (by rw [sort_len]; omega) (by rw [sort_len]; omega) (sort_srtd hw B) (sort_srtd hw X) (by omega)
      rw [List.append_nil, List.append_nil, ← sort_app hw] at this
      rw [this]
      exact g6 _ (.last _ (by rw [List.length_append]; omega))
  · rw [if_neg q]
    have := g4.small (by omega)
    subst this
    exact g6 _ (.last _ (by omega))
theorem mrgO_ok (hw : SWO lt) (D : List α) : ∀ (f bs : Nat) (D' : List α), 0 < bs → ChS lt bs D D' → D.length ≤ f + bs → mrgO lt D.length f bs D' = sortS lt D := by
  intro f
  induction f with
  | zero => intro bs D' h0 h hf; rw [mrgO]; exact h.small (by omega)
  | succ f ih =>
    intro bs D' h0 h hf
    rw [mrgO]
    by_cases q : bs < D.length
    · rw [if_pos q]
      exact ih (bs * 2) _ (by omega) (lvlG_ok hw bs h0 D D' h) (by omega)
    · rw [if_neg q]; exact h.small (by omega)
theorem stabG_ok (hw : SWO lt) (D : List α) : stabG lt D = sortS lt D := by
  unfold stabG
  obtain ⟨A, A', C, g1, rfl, g3, g4⟩ := blkG_ok hw D.length D.length [] D 0 rfl (by simp) (Nat.le_refl _)
  rw [List.nil_append, List.nil_append] at g1
  rw [g1]
  dsimp only
  obtain ⟨h1, h2⟩ := g4 (sortS lt C) (.last C (by omega))
  have := ins_blk hw A' C [] A.length ((A ++ C).length - (A.length + 1)) (A.length + 1) h2.symm (by rw [List.length_append]; omega) rfl
  rw [List.append_nil, List.append_nil] at this
  rw [Nat.zero_add, this]
  exact mrgO_ok hw (A ++ C) _ 20 _ (by omega) h1 (by omega)
end
end Go.Ac

