/- What is proved: contracts of functions of this translation, walked; their plain meaning. No condition beyond those that each theorem names. -/
import Derived.Test.YtohlmhkiejpkgaaGreatDoorFb18
set_option linter.all false
namespace Go.Ac
open Go
def Shf {α : Type} (f : α → Int → Except Int Int) (a : α) : Prop := ∀ t t1, f a t = .ok t1 → t ≤ t1 ∧ ∀ u, u + (t1 - t) ≤ 64 → f a u = .ok (u + (t1 - t))
theorem foldX_shf {α : Type} {f : α → Int → Except Int Int} : ∀ {l : List α}, (∀ a ∈ l, Shf f a) → ∀ {t t1 : Int}, foldX f l t = .ok t1 → t ≤ t1 ∧ ∀ u, u + (t1 - t) ≤ 64 → foldX f l u = .ok (u + (t1 - t))
  | [], _, t, t1, h => by
    simp only [foldX] at h
    cases h
    exact ⟨Int.le_refl _, fun u hu => by simp only [foldX]; congr 1; omega⟩
  | a :: l, hf, t, t1, h => by
    simp only [foldX] at h
    split at h
    · rename_i t2 h2
      obtain ⟨a1, a2⟩ := hf a (by simp) _ _ h2
      obtain ⟨b1, b2⟩ := foldX_shf (fun b hb => hf b (by simp [hb])) h
      refine ⟨by omega, fun u hu => ?_⟩
      simp only [foldX]
      rw [a2 u (by omega)]
      simp only
      rw [b2 (u + (t2 - t)) (by omega)]
      congr 1; omega
    · cases h
theorem foldX_app {α : Type} {f : α → Int → Except Int Int} : ∀ (l k : List α) (t : Int), foldX f (l ++ k) t = (match foldX f l t with | .ok u => foldX f k u | .error e => .error e)
  | [], k, t => by simp only [List.nil_append, foldX]
  | a :: l, k, t => by
    simp only [List.cons_append, foldX]
    cases f a t with
    | ok u => simp only; exact foldX_app l k u
    | error e => rfl
theorem foldX_rev {α : Type} {f : α → Int → Except Int Int} : ∀ {l : List α}, (∀ a ∈ l, Shf f a) → ∀ {t t1 : Int}, foldX f l t = .ok t1 → t1 ≤ 64 → foldX f l.reverse t = .ok t1
  | [], _, t, t1, h, _ => h
  | a :: l, hf, t, t1, h, h64 => by
    have hl : ∀ b ∈ l, Shf f b := fun b hb => hf b (by simp [hb])
    simp only [foldX] at h
    split at h
    · rename_i t2 h2
      obtain ⟨a1, a2⟩ := hf a (by simp) _ _ h2
      have ih := foldX_rev hl h h64
      obtain ⟨b1, b2⟩ := foldX_shf (l := l.reverse) (fun b hb => hl b (by simpa using hb)) ih
      rw [List.reverse_cons, foldX_app, b2 t (by omega)]
      simp only [foldX]
      rw [a2 _ (by omega)]
      simp only
      congr 1; omega
    · cases h
theorem chk_shf : ∀ n, (∀ v d, Shf (fun v t => chkT n v d t) v) ∧ (∀ v d, Shf (fun v t => chkQ n v d t) v)
  | 0 => ⟨fun v d t t1 h => by
      simp only at h; rw [chkT] at h; cases h
      exact ⟨Int.le_refl _, fun u _ => by simp only; rw [chkT]; congr 1; omega⟩, fun v d t t1 h => by
      simp only at h; rw [chkQ] at h; cases h
      exact ⟨Int.le_refl _, fun u _ => by simp only; rw [chkQ]; congr 1; omega⟩⟩
  | n + 1 => by
    obtain ⟨iT, iQ⟩ := chk_shf n
    have hT : ∀ d p, Shf (stT n d) p := by
      intro d p t t1 h
      unfold stT at h ⊢
      split at h
      · cases h
      rename_i h64
      unfold opR at h ⊢
      split at h
      · cases h
      rename_i q1
      split at h
      · cases h
      rename_i q2
      split at h
      · rename_i q3
        obtain ⟨a1, a2⟩ := iT p.2 (d + 1) _ _ h
        refine ⟨by omega, fun u hu => ?_⟩
        rw [if_neg (by omega), if_neg q1, if_neg q2, if_pos q3]
        have := a2 (u + 1) (by omega)
        simp only at this
        rw [this]; congr 1; omega
      rename_i q3
      split at h
      · rename_i q4
        split at h
        · rename_i q5
          obtain ⟨a1, a2⟩ := iT p.2 (d + 1) _ _ h
          refine ⟨by omega, fun u hu => ?_⟩
          rw [if_neg (by omega), if_neg q1, if_neg q2, if_neg q3, if_pos q4, if_pos q5]
          have := a2 (u + 1) (by omega)
          simp only at this
          rw [this]; congr 1; omega
        · rename_i q5
          obtain ⟨a1, a2⟩ := iQ p.2 (d + 1) _ _ h
          refine ⟨by omega, fun u hu => ?_⟩
          rw [if_neg (by omega), if_neg q1, if_neg q2, if_neg q3, if_pos q4, if_neg q5]
          have := a2 (u + 1) (by omega)
          simp only at this
          rw [this]; congr 1; omega
      · rename_i q4
        cases h
        refine ⟨by omega, fun u hu => ?_⟩
        rw [if_neg (by omega), if_neg q1, if_neg q2, if_neg q3, if_neg q4]; congr 1; omega
    have hQ : ∀ d p, Shf (stQ n d) p := by
      intro d p t t1 h
      unfold stQ at h ⊢
      split at h
      · rename_i q1
        split at h
        · cases h
        rename_i q2
        obtain ⟨a1, a2⟩ := foldX_shf (fun y _ => iQ y (d + 1)) h
        refine ⟨a1, fun u hu => ?_⟩
        rw [if_pos q1, if_neg q2]; exact a2 u hu
      rename_i q1
      split at h
      · cases h
      rename_i q2
      unfold clR at h ⊢
      split at h
      · cases h
      rename_i q3
      split at h
      · rename_i q4
        obtain ⟨a1, a2⟩ := iT p.2 d _ _ h
        refine ⟨a1, fun u hu => ?_⟩
        rw [if_neg q1, if_neg q2, if_neg q3, if_pos q4]; exact a2 u hu
      rename_i q4
      split at h
      · cases h
      cases h
      refine ⟨by omega, fun u hu => ?_⟩
      rw [if_neg q1, if_neg q2, if_neg q3, if_neg q4, if_neg (by omega)]; congr 1; omega
    refine ⟨fun v d t t1 h => ?_, fun v d t t1 h => ?_⟩
    · simp only at h ⊢
      rw [chkT_eq] at h
      split at h
      · cases h
      rename_i q1
      split at h
      · cases h
      rename_i q2
      obtain ⟨a1, a2⟩ := foldX_shf (fun p _ => hT d p) h
      exact ⟨a1, fun u hu => by rw [chkT_eq, if_neg q1, if_neg q2]; exact a2 u hu⟩
    · simp only at h ⊢
      rw [chkQ_eq] at h
      split at h
      · cases h
      rename_i q1
      split at h
      · cases h
      rename_i q2
      obtain ⟨a1, a2⟩ := foldX_shf (fun p _ => hQ d p) h
      exact ⟨a1, fun u hu => by rw [chkQ_eq, if_neg q1, if_neg q2]; exact a2 u hu⟩
def turnV (q : JV) : JV := .mk ⟨q.kind, 0, [], (q.names.take q.mem).reverse⟩ (q.items.take q.mem).reverse
theorem zip_rev {α β : Type} : ∀ (a : List α) (b : List β), a.length = b.length → a.reverse.zip b.reverse = (a.zip b).reverse
  | [], [], _ => rfl
  | [], _ :: _, h => by simp at h
  | _ :: _, [], h => by simp at h
  | x :: a, y :: b, h => by
    simp only [List.reverse_cons, List.zip_cons_cons]
    rw [List.zip_append (by simpa using h), zip_rev a b (by simpa using h)]; rfl
theorem zip_tk {α β : Type} : ∀ (a : List α) (b : List β) (n : Nat), (a.take n).zip (b.take n) = (a.zip b).take n
  | a, b, 0 => by simp
  | [], b, n + 1 => by simp
  | x :: a, [], n + 1 => by simp
  | x :: a, y :: b, n + 1 => by simp only [List.take_succ_cons, List.zip_cons_cons, zip_tk a b n]
theorem mems_take (q : JV) : (q.names.take q.mem).zip (q.items.take q.mem) = q.mems := by
  rw [zip_tk]
  exact List.take_of_length_le (by rw [show (q.names.zip q.items) = q.mems from rfl, q.mems_len]; exact Nat.le_refl _)
theorem turn_mems (q : JV) : (turnV q).mems = q.mems.reverse := by
  have h1 := q.mem_names
  have h2 := q.mem_items
  show (q.names.take q.mem).reverse.zip (q.items.take q.mem).reverse = _
  rw [zip_rev _ _ (by simp only [List.length_take]; omega), mems_take]
theorem turn_chk {n : Nat} {q : JV} {t : Int} (h : chkQ (n + 1) q 0 0 = .ok t) : chkQ (n + 1) (turnV q) 0 0 = .ok t := by
  have h64 := ((chk_le (n + 1)).2 q 0 0 t h).2 (by omega)
  have hs : ∀ p, Shf (stQ n 0) p := by
    intro p u u1 hu
    unfold stQ at hu ⊢
    split at hu
    · rename_i q1
      split at hu
      · cases hu
      rename_i q2
      obtain ⟨a1, a2⟩ := foldX_shf (fun y _ => (chk_shf n).2 y (0 + 1)) hu
      refine ⟨a1, fun w hw => ?_⟩
      rw [if_pos q1, if_neg q2]; exact a2 w hw
    rename_i q1
    split at hu
    · cases hu
    rename_i q2
    unfold clR at hu ⊢
    split at hu
    · cases hu
    rename_i q3
    split at hu
    · rename_i q4
      obtain ⟨a1, a2⟩ := (chk_shf n).1 p.2 0 _ _ hu
      refine ⟨a1, fun w hw => ?_⟩
      rw [if_neg q1, if_neg q2, if_neg q3, if_pos q4]; exact a2 w hw
    rename_i q4
    split at hu
    · cases hu
    cases hu
    refine ⟨by omega, fun w hw => ?_⟩
    rw [if_neg q1, if_neg q2, if_neg q3, if_neg q4, if_neg (by omega)]; congr 1; omega
  rw [chkQ_eq] at h ⊢
  split at h
  · cases h
  rename_i q1
  rw [if_neg (show ¬ (turnV q).kind ≠ 6 from q1)]
  split at h
  · cases h
  rw [turn_mems]
  exact foldX_rev (fun p _ => hs p) h h64
theorem turn_match (n : Nat) (q d : JV) : matchF (n + 1) (turnV q) d = matchF (n + 1) q d := by
  rw [matchF, matchF, turn_mems, List.all_reverse]
end Go.Ac

