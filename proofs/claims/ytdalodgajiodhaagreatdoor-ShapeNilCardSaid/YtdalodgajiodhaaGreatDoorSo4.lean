/- What is proved: contracts of functions of this translation, walked; their plain meaning. No condition beyond those that each theorem names. -/
import Derived.Test.YtdalodgajiodhaaGreatDoorSo3
import Derived.Test.YtdalodgajiodhaaGreatDoorMa6
set_option linter.all false
namespace Go.Ac
open Go
section
variable {α : Type} (lt : α → α → Bool)
def mnG (L : List α) : Nat → Nat → Nat → Nat
  | 0, m, _ => m
  | k + 1, m, i => mnG L k (if ltAt lt L i m = true then i else m) (i + 1)
def selG : Nat → List α → List α
  | 0, _ => []
  | f + 1, L => match L[mnG lt L (L.length - 1) 0 1]? with
    | some x => x :: selG f (L.take (mnG lt L (L.length - 1) 0 1) ++ L.drop (mnG lt L (L.length - 1) 0 1 + 1))
    | none => []
variable {lt}
def leastTo (lt : α → α → Bool) (L : List α) (m i : Nat) : Prop := m < i ∧ ∀ x, L[m]? = some x → (∀ k y, k < m → L[k]? = some y → lt x y = true) ∧ (∀ k y, m ≤ k → k < i → L[k]? = some y → lt y x = false)
theorem SWO.irr (hw : SWO lt) (x : α) : lt x x = false := by
  cases e : lt x x with
  | false => rfl
  | true => have := hw.asym x x e; rw [e] at this; cases this
theorem mnG_ok (hw : SWO lt) (L : List α) : ∀ (k m i : Nat), i + k ≤ L.length → leastTo lt L m i → leastTo lt L (mnG lt L k m i) (i + k)
  | 0, m, i, _, h => h
  | k + 1, m, i, hi, h => by
    rw [mnG, show i + (k + 1) = (i + 1) + k by omega]
    obtain ⟨h1, h2⟩ := h
    refine mnG_ok hw L k _ (i + 1) (by omega) ?_
    have hy : L[i]? = some L[i] := by simp
    have hx : L[m]? = some L[m] := by simp
    rw [ltAt_eq hy hx]
    obtain ⟨g1, g2⟩ := h2 _ hx
    by_cases q : lt L[i] L[m] = true
    · rw [if_pos q]
      refine ⟨by omega, fun x hx' => ?_⟩
      rw [hy] at hx'
      cases hx'
      refine ⟨fun k' y hk hy' => ?_, fun k' y hk hk2 hy' => ?_⟩
      · by_cases c1 : k' < m
        · exact hw.tr q (g1 k' y c1 hy')
        · exact hw.lt_of_lt_le q (g2 k' y (by omega) hk hy')
      · obtain rfl : k' = i := by omega
        rw [hy] at hy'; cases hy'
        exact hw.irr _
    · rw [if_neg q]
      refine ⟨by omega, fun x hx' => ?_⟩
      rw [hx] at hx'
      cases hx'
      refine ⟨g1, fun k' y hk hk2 hy' => ?_⟩
      by_cases c1 : k' < i
      · exact g2 k' y hk c1 hy'
      · obtain rfl : k' = i := by omega
        rw [hy] at hy'; cases hy'
        simpa using q
theorem ins_least (x : α) : ∀ l : List α, (∀ y ∈ l, lt y x = false) → insS lt x l = x :: l
  | [], _ => rfl
  | y :: l, h => by rw [insS, if_neg (by rw [h y (by simp)]; simp)]
theorem sort_min (hw : SWO lt) (A B : List α) (x : α) (hA : ∀ y ∈ A, lt x y = true) (hB : ∀ y ∈ B, lt y x = false) : sortS lt (A ++ x :: B) = x :: sortS lt (A ++ B) := by
  rw [sort_app hw, sort_app hw, sortS, ins_least x _ fun y hy => hB y ((sort_mem B y).1 hy)]
  cases hs : sortS lt A with
  | nil => rw [nil_mg, nil_mg]
  | cons a S =>
    have ha : a ∈ A := (sort_mem A a).1 (by rw [hs]; simp)
    rw [mg_cons, if_pos (hA a ha)]
theorem selG_ok (hw : SWO lt) : ∀ (f : Nat) (L : List α), L.length ≤ f → selG lt f L = sortS lt L
  | 0, L, h => by rw [List.length_eq_zero_iff.1 (show L.length = 0 by omega)]; rfl
  | f + 1, [], _ => by rw [selG]; rfl
  | f + 1, a :: L, h => by
    rw [selG]
    have h0 : leastTo lt (a :: L) 0 1 := ⟨by omega, fun x hx => ⟨fun k y hk => by omega, fun k y hk hk2 hy => by
      obtain rfl : k = 0 := by omega
      rw [hx] at hy; cases hy; exact hw.irr _⟩⟩
    obtain ⟨h1, h2⟩ := mnG_ok hw (a :: L) ((a :: L).length - 1) 0 1 (by simp only [List.length_cons]; omega) h0
    generalize mnG lt (a :: L) ((a :: L).length - 1) 0 1 = m at *
    have hl : 1 + ((a :: L).length - 1) = (a :: L).length := by simp only [List.length_cons]; omega
    rw [hl] at h1 h2
    have hx : (a :: L)[m]? = some (a :: L)[m] := by simp
    rw [hx]
    obtain ⟨g1, g2⟩ := h2 _ hx
    generalize (a :: L)[m] = x at *
    generalize a :: L = l at *
    simp only
    have e : l = l.take m ++ x :: l.drop (m + 1) := by
      have := List.drop_eq_getElem_cons (l := l) h1
      rw [show l[m] = x from by have := List.getElem?_eq_getElem h1; rw [hx] at this; exact (Option.some.inj this).symm] at this
      rw [← this, List.take_append_drop]
    rw [selG_ok hw f _ (by rw [List.length_append, List.length_take, List.length_drop]; omega)]
    conv => rhs; rw [e]
    rw [sort_min hw]
    · intro y hy
      obtain ⟨k, hk⟩ := List.mem_iff_getElem?.1 hy
      have hk2 := (List.getElem?_eq_some_iff.1 hk).1
      rw [List.length_take] at hk2
      rw [List.getElem?_take, if_pos (by omega)] at hk
      exact g1 k y (by omega) hk
    · intro y hy
      obtain ⟨k, hk⟩ := List.mem_iff_getElem?.1 hy
      have hk2 := (List.getElem?_eq_some_iff.1 hk).1
      rw [List.length_drop] at hk2
      rw [List.getElem?_drop] at hk
      exact g2 (m + 1 + k) y (by omega) (by omega) hk
end
theorem bl_cons (x y : UInt8) (a b : List UInt8) : Op.bytesLess (x :: a) (y :: b) = true ↔ x.toNat < y.toNat ∨ (x.toNat = y.toNat ∧ Op.bytesLess a b = true) := by
  simp only [Op.bytesLess, Bool.or_eq_true, decide_eq_true_eq, Bool.and_eq_true, beq_iff_eq, UInt8.lt_iff_toNat_lt, ← UInt8.toNat_inj]
theorem bl_asym : ∀ a b : List UInt8, Op.bytesLess a b = true → Op.bytesLess b a = true → False
  | [], [], h, _ => by simp [Op.bytesLess] at h
  | [], y :: b, _, h => by simp [Op.bytesLess] at h
  | x :: a, [], h, _ => by simp [Op.bytesLess] at h
  | x :: a, y :: b, h, h' => by
    rw [bl_cons] at h h'
    rcases h with h | ⟨e, h⟩
    · rcases h' with h' | ⟨e', h'⟩ <;> omega
    · rcases h' with h' | ⟨e', h'⟩
      · omega
      · exact bl_asym a b h h'
theorem bl_co : ∀ a b c : List UInt8, Op.bytesLess a c = true → Op.bytesLess a b = true ∨ Op.bytesLess b c = true
  | a, b, [], h => by cases a <;> simp [Op.bytesLess] at h
  | [], [], z :: c, h => .inr h
  | [], y :: b, z :: c, h => .inl (by simp [Op.bytesLess])
  | x :: a, [], z :: c, h => .inr (by simp [Op.bytesLess])
  | x :: a, y :: b, z :: c, h => by
    rw [bl_cons] at h
    rw [bl_cons, bl_cons]
    by_cases h1 : x.toNat < y.toNat
    · exact .inl (.inl h1)
    by_cases h2 : y.toNat < z.toNat
    · exact .inr (.inl h2)
    rcases h with h | ⟨e, h⟩
    · omega
    · rcases bl_co a b c h with q | q
      · exact .inl (.inr ⟨by omega, q⟩)
      · exact .inr (.inr ⟨by omega, q⟩)
theorem bl_swo {α : Type} (f : α → List UInt8) : SWO fun x y => Op.bytesLess (f x) (f y) :=
  ⟨fun x y h => by
    cases e : Op.bytesLess (f y) (f x) with
    | false => rfl
    | true => exact (bl_asym _ _ h e).elim,
   fun x y z h1 h2 => by
    cases e : Op.bytesLess (f x) (f z) with
    | false => rfl
    | true =>
      rcases bl_co _ (f y) _ e with q | q
      · rw [q] at h1; cases h1
      · rw [q] at h2; cases h2⟩
end Go.Ac

