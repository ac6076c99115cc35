/- What is proved: contracts of functions of this translation, walked; their plain meaning. No condition beyond those that each theorem names. -/
import Derived.Test.YtdalodgajiodhaaGreatDoorSo4
import Derived.Test.YtdalodgajiodhaaGreatDoorMa6
set_option linter.all false
namespace Go.Ac
open Go
section
variable {α : Type}
structure Cmp3 (f : α → α → Int) : Prop where
  rng : ∀ a b, f a b = -1 ∨ f a b = 0 ∨ f a b = 1
  sym : ∀ a b, f b a = - f a b
  tr : ∀ a b c, f a b ≤ 0 → f b c ≤ 0 → f a c ≤ 0
theorem Cmp3.swo {f : α → α → Int} (h : Cmp3 f) : SWO fun a b => decide (f a b < 0) :=
  ⟨fun x y q => by
    have := h.sym x y
    simp only [decide_eq_true_eq, decide_eq_false_iff_not] at q ⊢; omega,
   fun x y z q1 q2 => by
    simp only [decide_eq_false_iff_not] at q1 q2 ⊢
    have s1 := h.sym x y; have s2 := h.sym y z; have s3 := h.sym x z
    have := h.tr z y x (by omega) (by omega)
    omega⟩
theorem Cmp3.lt_le {f : α → α → Int} (h : Cmp3 f) {a b c : α} (h1 : f a b < 0) (h2 : f b c ≤ 0) : f a c < 0 := by
  have := h.tr a b c (by omega) h2
  rcases Int.lt_or_eq_of_le this with q | q
  · exact q
  · have s1 := h.sym a c; have s2 := h.sym a b; have s3 := h.sym b c
    have := h.tr b c a h2 (by omega)
    omega
theorem Cmp3.le_lt {f : α → α → Int} (h : Cmp3 f) {a b c : α} (h1 : f a b ≤ 0) (h2 : f b c < 0) : f a c < 0 := by
  have := h.tr a b c h1 (by omega)
  rcases Int.lt_or_eq_of_le this with q | q
  · exact q
  · have s1 := h.sym a c; have s2 := h.sym a b; have s3 := h.sym b c
    have := h.tr c a b (by omega) h1
    omega
theorem Cmp3.eq_tr {f : α → α → Int} (h : Cmp3 f) {a b c : α} (h1 : f a b = 0) (h2 : f b c = 0) : f a c = 0 := by
  have t1 := h.tr a b c (by omega) (by omega)
  have s1 := h.sym a b; have s2 := h.sym b c; have s3 := h.sym a c
  have t2 := h.tr c b a (by omega) (by omega)
  omega
theorem cmp_lexD {f g : α → α → Int} (hf : Cmp3 f) (g1 : ∀ a b, f a b = 0 → g a b = -1 ∨ g a b = 0 ∨ g a b = 1) (g2 : ∀ a b, f a b = 0 → g b a = - g a b) (g3 : ∀ a b c, f a b = 0 → f b c = 0 → g a b ≤ 0 → g b c ≤ 0 → g a c ≤ 0) :
    Cmp3 fun a b => if f a b = 0 then g a b else f a b := by
  refine ⟨fun a b => ?_, fun a b => ?_, fun a b c h1 h2 => ?_⟩
  · split
    · rename_i e; exact g1 a b e
    · exact hf.rng a b
  · have s := hf.sym a b
    by_cases e : f a b = 0
    · rw [if_pos e, if_pos (by omega), g2 a b e]
    · rw [if_neg e, if_neg (by omega), s]
  · by_cases e1 : f a b = 0
    · rw [if_pos e1] at h1
      by_cases e2 : f b c = 0
      · rw [if_pos e2] at h2
        rw [if_pos (hf.eq_tr e1 e2)]
        exact g3 a b c e1 e2 h1 h2
      · rw [if_neg e2] at h2
        have := hf.le_lt (a := a) (b := b) (c := c) (by omega) (by omega)
        rw [if_neg (by omega)]; omega
    · rw [if_neg e1] at h1
      have h2' : f b c ≤ 0 := by
        by_cases e2 : f b c = 0
        · omega
        · rw [if_neg e2] at h2; exact h2
      have := hf.lt_le (a := a) (b := b) (c := c) (by omega) h2'
      rw [if_neg (by omega)]; omega
theorem cmp_lex {f g : α → α → Int} (hf : Cmp3 f) (hg : Cmp3 g) : Cmp3 fun a b => if f a b = 0 then g a b else f a b :=
  cmp_lexD hf (fun a b _ => hg.rng a b) (fun a b _ => hg.sym a b) (fun a b c _ _ => hg.tr a b c)
theorem cmp_key {β : Type} {f : β → β → Int} (hf : Cmp3 f) (k : α → β) : Cmp3 fun a b => f (k a) (k b) := ⟨fun a b => hf.rng _ _, fun a b => hf.sym _ _, fun a b c => hf.tr _ _ _⟩
theorem cmp_zero : Cmp3 fun _ _ : α => 0 := ⟨fun _ _ => .inr (.inl rfl), fun _ _ => rfl, fun _ _ _ _ _ => Int.le_refl _⟩
end
theorem cmpI_cmp : Cmp3 cmpI := by
  have h : ∀ a b, (a < b ∧ cmpI a b = -1) ∨ (a = b ∧ cmpI a b = 0) ∨ (b < a ∧ cmpI a b = 1) := fun a b => by
    unfold cmpI
    by_cases h1 : a < b
    · exact .inl ⟨h1, by rw [if_pos h1]⟩
    · by_cases h2 : b < a
      · exact .inr (.inr ⟨h2, by rw [if_neg h1, if_pos h2]⟩)
      · exact .inr (.inl ⟨by omega, by rw [if_neg h1, if_neg h2]⟩)
  refine ⟨fun a b => ?_, fun a b => ?_, fun a b c => ?_⟩
  · have := h a b; omega
  · have := h a b; have := h b a; omega
  · have := h a b; have := h b c; have := h a c; omega
theorem cmpBy_cons (x y : UInt8) (a b : List UInt8) : Lib.compareBytes (x :: a) (y :: b) = if cmpI x.toNat y.toNat = 0 then Lib.compareBytes a b else cmpI x.toNat y.toNat := by
  rw [Lib.compareBytes]
  simp only [UInt8.lt_iff_toNat_lt]
  unfold cmpI
  by_cases h1 : x.toNat < y.toNat
  · rw [if_pos h1, if_pos (show (x.toNat : Int) < (y.toNat : Int) by omega), if_neg (by omega)]
  · rw [if_neg h1, if_neg (show ¬ (x.toNat : Int) < (y.toNat : Int) by omega)]
    by_cases h2 : y.toNat < x.toNat
    · rw [if_pos h2, if_pos (show (y.toNat : Int) < (x.toNat : Int) by omega), if_neg (by omega)]
    · rw [if_neg h2, if_neg (show ¬ (y.toNat : Int) < (x.toNat : Int) by omega), if_pos rfl]
section
variable {α : Type} {f : α → α → Int}
def lexL (f : α → α → Int) : List α → List α → Int
  | [], [] => 0
  | [], _ :: _ => -1
  | _ :: _, [] => 1
  | a :: l, b :: k => if f a b = 0 then lexL f l k else f a b
theorem lexL_rng (hf : Cmp3 f) : ∀ l k : List α, lexL f l k = -1 ∨ lexL f l k = 0 ∨ lexL f l k = 1
  | [], [] => .inr (.inl rfl)
  | [], _ :: _ => .inl rfl
  | _ :: _, [] => .inr (.inr rfl)
  | a :: l, b :: k => by
    rw [lexL]
    split
    · exact lexL_rng hf l k
    · exact hf.rng a b
theorem lexL_sym (hf : Cmp3 f) : ∀ l k : List α, lexL f k l = - lexL f l k
  | [], [] => rfl
  | [], _ :: _ => rfl
  | _ :: _, [] => rfl
  | a :: l, b :: k => by
    have s := hf.sym a b
    rw [lexL, lexL]
    by_cases e : f a b = 0
    · rw [if_pos e, if_pos (by omega)]; exact lexL_sym hf l k
    · rw [if_neg e, if_neg (by omega)]; exact s
theorem lexL_tr (hf : Cmp3 f) : ∀ l k m : List α, lexL f l k ≤ 0 → lexL f k m ≤ 0 → lexL f l m ≤ 0
  | [], _, [], _, _ => Int.le_refl _
  | [], _, _ :: _, _, _ => by simp [lexL]
  | _ :: _, [], _, h, _ => by simp [lexL] at h
  | _ :: _, _ :: _, [], _, h => by simp [lexL] at h
  | a :: l, b :: k, c :: m, h1, h2 => by
    rw [lexL] at h1 h2 ⊢
    by_cases e1 : f a b = 0
    · rw [if_pos e1] at h1
      by_cases e2 : f b c = 0
      · rw [if_pos e2] at h2
        rw [if_pos (hf.eq_tr e1 e2)]
        exact lexL_tr hf l k m h1 h2
      · rw [if_neg e2] at h2
        have := hf.le_lt (a := a) (b := b) (c := c) (by omega) (by omega)
        rw [if_neg (by omega)]; omega
    · rw [if_neg e1] at h1
      have h2' : f b c ≤ 0 := by
        by_cases e2 : f b c = 0
        · omega
        · rw [if_neg e2] at h2; exact h2
      have := hf.lt_le (a := a) (b := b) (c := c) (by omega) h2'
      rw [if_neg (by omega)]; omega
theorem lexL_cmp (hf : Cmp3 f) : Cmp3 (lexL f) := ⟨lexL_rng hf, lexL_sym hf, lexL_tr hf⟩
end
theorem cmpBy_lex : ∀ a b : List UInt8, Lib.compareBytes a b = lexL (fun x y : UInt8 => cmpI x.toNat y.toNat) a b
  | [], [] => by simp [Lib.compareBytes, lexL]
  | [], _ :: _ => by simp [Lib.compareBytes, lexL]
  | _ :: _, [] => by simp [Lib.compareBytes, lexL]
  | x :: a, y :: b => by rw [cmpBy_cons, lexL, cmpBy_lex a b]
theorem cmpBy_cmp : Cmp3 Lib.compareBytes := by
  have := lexL_cmp (cmp_key cmpI_cmp (fun x : UInt8 => (x.toNat : Int)))
  rw [show Lib.compareBytes = lexL (fun x y : UInt8 => cmpI x.toNat y.toNat) from funext fun a => funext fun b => cmpBy_lex a b]
  exact this
theorem cmpLs_lex (f : JV → JV → Int) : ∀ l k : List JV, cmpLs f l k = lexL f l k
  | [], [] => rfl
  | [], _ :: _ => rfl
  | _ :: _, [] => rfl
  | a :: l, b :: k => by rw [cmpLs, lexL, cmpLs_lex f l k]
theorem cmpMs_lex (f : JV → JV → Int) : ∀ l k : List (List UInt8 × JV), cmpMs f l k = lexL (fun p q => if Lib.compareBytes p.1 q.1 = 0 then f p.2 q.2 else Lib.compareBytes p.1 q.1) l k
  | [], [] => rfl
  | [], _ :: _ => rfl
  | _ :: _, [] => rfl
  | (x, a) :: l, (y, b) :: k => by
    rw [cmpMs, lexL, cmpMs_lex f l k]
    dsimp only
    by_cases e : Lib.compareBytes x y = 0
    · rw [if_pos e, if_pos e]
    · rw [if_neg e, if_neg e, if_neg e]
theorem rank_eq {a b : Int} (h : cmpI (rankV a) (rankV b) = 0) : (a = 3 ↔ b = 3) ∧ (a = 4 ↔ b = 4) ∧ (a = 5 ↔ b = 5) ∧ (a = 6 ↔ b = 6) := by
  have e : rankV a = rankV b := by
    unfold cmpI at h
    split at h
    · omega
    · split at h <;> omega
  have r : ∀ a : Int, (a = 0 ∧ rankV a = 0) ∨ (a = 3 ∧ rankV a = 1) ∨ (a = 4 ∧ rankV a = 2) ∨ (a = 6 ∧ rankV a = 3) ∨ (a = 5 ∧ rankV a = 4) ∨ (a = 1 ∧ rankV a = 5) ∨ (a = 2 ∧ rankV a = 6) ∨ (rankV a = -1 ∧ a ≠ 3 ∧ a ≠ 4 ∧ a ≠ 5 ∧ a ≠ 6) := fun a => by
    by_cases h0 : a = 0
    · subst h0; exact .inl ⟨rfl, rfl⟩
    by_cases h3 : a = 3
    · subst h3; exact .inr (.inl ⟨rfl, rfl⟩)
    by_cases h4 : a = 4
    · subst h4; exact .inr (.inr (.inl ⟨rfl, rfl⟩))
    by_cases h6 : a = 6
    · subst h6; exact .inr (.inr (.inr (.inl ⟨rfl, rfl⟩)))
    by_cases h5 : a = 5
    · subst h5; exact .inr (.inr (.inr (.inr (.inl ⟨rfl, rfl⟩))))
    by_cases h1 : a = 1
    · subst h1; exact .inr (.inr (.inr (.inr (.inr (.inl ⟨rfl, rfl⟩)))))
    by_cases h2 : a = 2
    · subst h2; exact .inr (.inr (.inr (.inr (.inr (.inr (.inl ⟨rfl, rfl⟩))))))
    refine .inr (.inr (.inr (.inr (.inr (.inr (.inr ⟨?_, h3, h4, h5, h6⟩))))))
    unfold rankV
    simp [h0, h1, h2, h3, h4, h5, h6]
  have ra := r a
  have rb := r b
  omega
theorem cmpF_cmp : ∀ n : Nat, Cmp3 (cmpF n)
  | 0 => cmp_zero
  | n + 1 => by
    have ih := cmpF_cmp n
    have hL := lexL_cmp ih
    have hM := lexL_cmp (cmp_lex (cmp_key cmpBy_cmp (fun p : List UInt8 × JV => p.1)) (cmp_key ih (fun p : List UInt8 × JV => p.2)))
    have hr := cmp_key cmpI_cmp (fun a : JV => rankV a.kind)
    refine cmp_lexD (f := fun a b : JV => cmpI (rankV a.kind) (rankV b.kind)) (g := fun a b : JV => if a.kind = 3 then cmpI a.int b.int else if a.kind = 4 then Lib.compareBytes a.text b.text else if a.kind = 5 then cmpLs (cmpF n) a.items b.items else if a.kind = 6 then cmpMs (cmpF n) a.mems b.mems else 0) hr (fun a b e => ?_) (fun a b e => ?_) (fun a b c e1 e2 h1 h2 => ?_)
    · split
      · exact cmpI_cmp.rng _ _
      · split
        · exact cmpBy_cmp.rng _ _
        · split
          · rw [cmpLs_lex]; exact hL.rng _ _
          · split
            · rw [cmpMs_lex]; exact hM.rng _ _
            · exact .inr (.inl rfl)
    · obtain ⟨k3, k4, k5, k6⟩ := rank_eq e
      by_cases q3 : a.kind = 3
      · rw [if_pos q3, if_pos (k3.1 q3)]; exact cmpI_cmp.sym _ _
      rw [if_neg q3, if_neg fun q => q3 (k3.2 q)]
      by_cases q4 : a.kind = 4
      · rw [if_pos q4, if_pos (k4.1 q4)]; exact cmpBy_cmp.sym _ _
      rw [if_neg q4, if_neg fun q => q4 (k4.2 q)]
      by_cases q5 : a.kind = 5
      · rw [if_pos q5, if_pos (k5.1 q5), cmpLs_lex, cmpLs_lex]; exact hL.sym _ _
      rw [if_neg q5, if_neg fun q => q5 (k5.2 q)]
      by_cases q6 : a.kind = 6
      · rw [if_pos q6, if_pos (k6.1 q6), cmpMs_lex, cmpMs_lex]; exact hM.sym _ _
      rw [if_neg q6, if_neg fun q => q6 (k6.2 q)]
      rfl
    · obtain ⟨k3, k4, k5, k6⟩ := rank_eq e1
      by_cases q3 : a.kind = 3
      · rw [if_pos q3] at h1 ⊢; rw [if_pos (k3.1 q3)] at h2; exact cmpI_cmp.tr _ _ _ h1 h2
      rw [if_neg q3] at h1 ⊢; rw [if_neg fun q => q3 (k3.2 q)] at h2
      by_cases q4 : a.kind = 4
      · rw [if_pos q4] at h1 ⊢; rw [if_pos (k4.1 q4)] at h2; exact cmpBy_cmp.tr _ _ _ h1 h2
      rw [if_neg q4] at h1 ⊢; rw [if_neg fun q => q4 (k4.2 q)] at h2
      by_cases q5 : a.kind = 5
      · rw [if_pos q5, cmpLs_lex] at h1 ⊢; rw [if_pos (k5.1 q5), cmpLs_lex] at h2; exact hL.tr _ _ _ h1 h2
      rw [if_neg q5] at h1 ⊢; rw [if_neg fun q => q5 (k5.2 q)] at h2
      by_cases q6 : a.kind = 6
      · rw [if_pos q6, cmpMs_lex] at h1 ⊢; rw [if_pos (k6.1 q6), cmpMs_lex] at h2; exact hM.tr _ _ _ h1 h2
      rw [if_neg q6]
      exact Int.le_refl _
end Go.Ac

