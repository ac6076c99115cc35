/- What is proved: contracts of functions of this translation, walked; their plain meaning. No condition beyond those that each theorem names. -/
import Derived.Test.YtkpppapgbplokaaGreatDoorPh
set_option linter.all false
namespace Go.Ac
open Go
set_option maxRecDepth 4000
def hasB (l : List (List UInt8)) (s : List UInt8) : Bool := decide (s ∈ l)
def tailC (s : List UInt8) : Nat → Nat → Int → Int → Int
  | 0, i, _, _ => i
  | k + 1, i, lo, hi => if i = s.length then -1 else if ((s[i]?.getD 0).toNat : Int) < lo ∨ hi < ((s[i]?.getD 0).toNat : Int) then 0 else tailC s k (i + 1) 128 191
def charV (s : List UInt8) : Int :=
  if s = [] then 0 else if ((s.headD 0).toNat : Int) < 128 then 1 else if 194 ≤ ((s.headD 0).toNat : Int) ∧ ((s.headD 0).toNat : Int) ≤ 223 then tailC s 1 1 128 191
    else if 224 ≤ ((s.headD 0).toNat : Int) ∧ ((s.headD 0).toNat : Int) ≤ 239 then tailC s 2 1 (if ((s.headD 0).toNat : Int) = 224 then 160 else 128) (if ((s.headD 0).toNat : Int) = 237 then 159 else 191)
    else if 240 ≤ ((s.headD 0).toNat : Int) ∧ ((s.headD 0).toNat : Int) ≤ 244 then tailC s 3 1 (if ((s.headD 0).toNat : Int) = 240 then 144 else 128) (if ((s.headD 0).toNat : Int) = 244 then 143 else 191) else 0
theorem tailC_le (s : List UInt8) : ∀ (k i : Nat) (lo hi : Int), i ≤ s.length → tailC s k i lo hi ≤ s.length ∧ -1 ≤ tailC s k i lo hi
  | 0, i, lo, hi, h => by rw [tailC]; omega
  | k + 1, i, lo, hi, h => by
    rw [tailC]
    split
    · omega
    · split
      · omega
      · exact tailC_le s k (i + 1) 128 191 (by omega)
theorem charV_le (s : List UInt8) : charV s ≤ s.length ∧ -1 ≤ charV s := by
  rw [charV]
  split
  · omega
  · rename_i h0
    have hl : 1 ≤ s.length := by cases s with | nil => exact absurd rfl h0 | cons c s => simp
    have h (k : Nat) (lo hi : Int) := tailC_le s k 1 lo hi hl
    split
    · omega
    · split
      · exact h _ _ _
      · split
        · exact h _ _ _
        · split
          · exact h _ _ _
          · omega
def cleanN : Nat → List UInt8 → Bool
  | 0, _ => true
  | n + 1, s => if s = [] then true else if charV s ≤ 0 then false else cleanN n (s.drop (charV s).toNat)
def clB (s : List UInt8) : Bool := cleanN s.length s
theorem cleanN_more : ∀ (n m : Nat) (s : List UInt8), s.length ≤ n → s.length ≤ m → cleanN n s = cleanN m s
  | 0, 0, _, _, _ => rfl
  | 0, m + 1, s, h, _ => by
    obtain rfl : s = [] := List.length_eq_zero_iff.1 (by omega)
    rw [cleanN, cleanN, if_pos rfl]
  | n + 1, 0, s, _, h => by
    obtain rfl : s = [] := List.length_eq_zero_iff.1 (by omega)
    rw [cleanN, cleanN, if_pos rfl]
  | n + 1, m + 1, s, h1, h2 => by
    rw [cleanN, cleanN]
    split
    · rfl
    · split
      · rfl
      · exact cleanN_more n m _ (by rw [List.length_drop]; omega) (by rw [List.length_drop]; omega)
theorem clB_no {s : List UInt8} (h : ¬ s = []) (hc : charV s ≤ 0) : clB s = false := by
  unfold clB
  cases s with
  | nil => exact absurd rfl h
  | cons c s => rw [List.length_cons, cleanN, if_neg h, if_pos hc]
theorem clB_on {s : List UInt8} (h : ¬ s = []) (hc : ¬ charV s ≤ 0) : clB (s.drop (charV s).toNat) = clB s := by
  unfold clB
  cases s with
  | nil => exact absurd rfl h
  | cons c s =>
    rw [show cleanN (c :: s).length (c :: s) = cleanN s.length ((c :: s).drop (charV (c :: s)).toNat) by rw [List.length_cons, cleanN, if_neg h, if_neg hc]]
    exact cleanN_more _ _ _ (Nat.le_refl _) (by rw [List.length_drop, List.length_cons]; omega)
def plB (h : JH) (n : Nat) : Bool := !((!decide (h.kind = 3) && !decide (h.int = 0)) || (!decide (h.kind = 4) && !decide (h.text = []))) && (if h.kind = 6 then decide (h.names.length = n) else decide (h.names.length = 0) && (decide (h.kind = 5) || decide (n = 0)))
mutual
def chkV : JV → Int → Int
  | .mk h l, d => if 64 < d ∨ ((h.kind = 5 ∨ h.kind = 6) ∧ d = 64) then 17 else if h.kind < 0 ∨ 6 < h.kind ∨ plB h l.length = false ∨ clB h.text = false then 18 else chkL h.kind h.names l d 0
def chkL : Int → List (List UInt8) → List JV → Int → Nat → Int
  | _, _, [], _, _ => 0
  | k, ns, x :: l, d, i => if k = 6 ∧ clB (ns[i]?.getD []) = false then 18 else if k = 6 ∧ hasB (ns.take i) (ns[i]?.getD []) = true then 16 else if chkV x (d + 1) ≠ 0 then chkV x (d + 1) else chkL k ns l d (i + 1)
end
theorem charV_cons (c : UInt8) (s : List UInt8) : charV (c :: s) = if (c.toNat : Int) < 128 then 1 else if 194 ≤ (c.toNat : Int) ∧ (c.toNat : Int) ≤ 223 then tailC (c :: s) 1 1 128 191
    else if 224 ≤ (c.toNat : Int) ∧ (c.toNat : Int) ≤ 239 then tailC (c :: s) 2 1 (if (c.toNat : Int) = 224 then 160 else 128) (if (c.toNat : Int) = 237 then 159 else 191)
    else if 240 ≤ (c.toNat : Int) ∧ (c.toNat : Int) ≤ 244 then tailC (c :: s) 3 1 (if (c.toNat : Int) = 240 then 144 else 128) (if (c.toNat : Int) = 244 then 143 else 191) else 0 := by
  rw [charV, if_neg (by simp)]; rfl
theorem tailC_end (s : List UInt8) (k i : Nat) (lo hi : Int) (h : i = s.length) : tailC s (k + 1) i lo hi = -1 := by rw [tailC, if_pos h]
theorem tailC_out {s : List UInt8} {k i : Nat} {lo hi : Int} {x : UInt8} (hx : s[i]? = some x) (h : (x.toNat : Int) < lo ∨ hi < (x.toNat : Int)) : tailC s (k + 1) i lo hi = 0 := by
  have := (List.getElem?_eq_some_iff.1 hx).1
  rw [tailC, if_neg (by omega), hx, Option.getD_some, if_pos h]
theorem tailC_on {s : List UInt8} {k i : Nat} {lo hi : Int} {x : UInt8} (hx : s[i]? = some x) (h : ¬ ((x.toNat : Int) < lo ∨ hi < (x.toNat : Int))) : tailC s (k + 1) i lo hi = tailC s k (i + 1) 128 191 := by
  have := (List.getElem?_eq_some_iff.1 hx).1
  rw [tailC, if_neg (by omega), hx, Option.getD_some, if_neg h]
theorem chkL_at {k : Int} {ns : List (List UInt8)} {l : List JV} {d : Int} {i : Nat} {x : JV} (hx : l[i]? = some x) : chkL k ns (l.drop i) d i =
    if k = 6 ∧ clB (ns[i]?.getD []) = false then 18 else if k = 6 ∧ hasB (ns.take i) (ns[i]?.getD []) = true then 16 else if chkV x (d + 1) ≠ 0 then chkV x (d + 1) else chkL k ns (l.drop (i + 1)) d (i + 1) := by
  obtain ⟨h1, h2⟩ := List.getElem?_eq_some_iff.1 hx
  rw [List.drop_eq_getElem_cons h1, chkL, h2]
theorem plB_len {h : JH} {n : Nat} (e : plB h n = true) (hk : h.kind = 6) : h.names.length = n := by
  simp only [plB, Bool.and_eq_true] at e
  have e2 := e.2
  rw [if_pos hk] at e2
  exact of_decide_eq_true e2
mutual
def simpleV : JV → Bool
  | .mk h l => !decide (h.kind = 5) && simpleL l
def simpleL : List JV → Bool
  | [] => true
  | x :: l => simpleV x && simpleL l
end
theorem nodup_of_has : ∀ (ns : List (List UInt8)), (∀ i s, ns[i]? = some s → hasB (ns.take i) s = false) → ns.Nodup
  | ns, h => by
    unfold List.Nodup
    rw [List.pairwise_iff_getElem]
    intro i j hi hj hij e
    have hs : ns[j]? = some ns[j] := by simp [hj]
    have := h j _ hs
    unfold hasB at this
    rw [decide_eq_false_iff_not] at this
    apply this
    rw [← e]
    exact List.mem_iff_getElem?.2 ⟨i, by rw [List.getElem?_take, if_pos hij]; simp [hi]⟩
theorem chkL_has : ∀ (k : Int) (ns : List (List UInt8)) (l : List JV) (d : Int) (i : Nat), k = 6 → chkL k ns l d i = 0 → ∀ j, i ≤ j → j < i + l.length → hasB (ns.take j) (ns[j]?.getD []) = false
  | _, _, [], _, _, _, _ => fun j h1 h2 => by simp only [List.length_nil] at h2; omega
  | k, ns, x :: l, d, i, hk, e => fun j h1 h2 => by
    rw [chkL] at e
    split at e
    · cases e
    · split at e
      · cases e
      · rename_i q
        split at e
        · rename_i q2; exact absurd e q2
        · by_cases hj : j = i
          · subst hj
            cases hh : hasB (ns.take j) (ns[j]?.getD []) with
            | false => rfl
            | true => exact absurd ⟨hk, hh⟩ q
          · exact chkL_has k ns l d (i + 1) hk e j (by omega) (by simp only [List.length_cons] at h2; omega)
mutual
theorem chk_plain : ∀ (v : JV) (d : Int), chkV v d = 0 → simpleV v = true → plainD v
  | .mk h l, d, e, hs => by
    rw [chkV] at e
    rw [simpleV, Bool.and_eq_true, Bool.not_eq_true', decide_eq_false_iff_not] at hs
    split at e
    · cases e
    · split at e
      · cases e
      · rename_i q
        have hp : plB h l.length = true := by
          cases hh : plB h l.length with
          | true => rfl
          | false => exact absurd (.inr (.inr (.inl hh))) q
        rw [plainD]
        refine ⟨hs.1, fun hk => nodup_of_has _ fun i s hi => ?_, chkL_plain _ _ l d 0 e hs.2⟩
        have hl := plB_len hp hk
        have hi' := (List.getElem?_eq_some_iff.1 hi).1
        have := chkL_has h.kind h.names l d 0 hk e i (by omega) (by omega)
        rw [hi] at this
        exact this
theorem chkL_plain : ∀ (k : Int) (ns : List (List UInt8)) (l : List JV) (d : Int) (i : Nat), chkL k ns l d i = 0 → simpleL l = true → plainDs l
  | _, _, [], _, _, _, _ => trivial
  | k, ns, x :: l, d, i, e, hs => by
    rw [chkL] at e
    rw [simpleL, Bool.and_eq_true] at hs
    split at e
    · cases e
    · split at e
      · cases e
      · split at e
        · rename_i q; exact absurd e q
        · rename_i q
          rw [plainDs]
          exact ⟨chk_plain x (d + 1) (Classical.byContradiction q) hs.1, chkL_plain k ns l d (i + 1) e hs.2⟩
end
end Go.Ac

