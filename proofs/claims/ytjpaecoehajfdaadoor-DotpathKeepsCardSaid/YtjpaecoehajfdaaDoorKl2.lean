/- What is proved: contracts of functions of this translation, walked; their plain meaning. No condition beyond those that each theorem names. -/
import Derived.Test.YtjpaecoehajfdaaDoorKl1
set_option linter.all false
namespace Go.Ab
open Go Go.Proofs

set_option maxRecDepth 4000

/-- What follows on a character's first byte. -/
def tailC (s : List UInt8) : Nat → Nat → Int → Int → Int
  | 0, i, _, _ => i
  | k + 1, i, lo, hi => if i = s.length then -1 else if ((s[i]?.getD 0).toNat : Int) < lo ∨ hi < ((s[i]?.getD 0).toNat : Int) then 0 else tailC s k (i + 1) 128 191
/-- How many bytes the character at a text's beginning has. -/
def charV (s : List UInt8) : Int :=
  if s = [] then 0 else if ((s.headD 0).toNat : Int) < 128 then 1 else if 194 ≤ ((s.headD 0).toNat : Int) ∧ ((s.headD 0).toNat : Int) ≤ 223 then tailC s 1 1 128 191
    else if 224 ≤ ((s.headD 0).toNat : Int) ∧ ((s.headD 0).toNat : Int) ≤ 239 then tailC s 2 1 (if ((s.headD 0).toNat : Int) = 224 then 160 else 128) (if ((s.headD 0).toNat : Int) = 237 then 159 else 191)
    else if 240 ≤ ((s.headD 0).toNat : Int) ∧ ((s.headD 0).toNat : Int) ≤ 244 then tailC s 3 1 (if ((s.headD 0).toNat : Int) = 240 then 144 else 128) (if ((s.headD 0).toNat : Int) = 244 then 143 else 191) else 0
theorem tailC_le (s : List UInt8) : ∀ (k i : Nat) (lo hi : Int), i ≤ s.length → tailC s k i lo hi ≤ s.length ∧ -1 ≤ tailC s k i lo hi
  | 0, i, lo, hi, h => by rw [tailC]; omega
  | k + 1, i, lo, hi, h => by
    rw [tailC]
    split
    · omega
    · split
      · omega
      · exact tailC_le s k (i + 1) 128 191 (by omega)
theorem charV_le (s : List UInt8) : charV s ≤ s.length ∧ -1 ≤ charV s := by
  rw [charV]
  split
  · omega
  · rename_i h0
    have hl : 1 ≤ s.length := by cases s with | nil => exact absurd rfl h0 | cons c s => simp
    have h (k : Nat) (lo hi : Int) := tailC_le s k 1 lo hi hl
    split
    · omega
    · split
      · exact h _ _ _
      · split
        · exact h _ _ _
        · split
          · exact h _ _ _
          · omega
/-- Is a text characters one behind the other? -/
def cleanN : Nat → List UInt8 → Bool
  | 0, _ => true
  | n + 1, s => if s = [] then true else if charV s ≤ 0 then false else cleanN n (s.drop (charV s).toNat)
def clB (s : List UInt8) : Bool := cleanN s.length s
theorem cleanN_more : ∀ (n m : Nat) (s : List UInt8), s.length ≤ n → s.length ≤ m → cleanN n s = cleanN m s
  | 0, 0, _, _, _ => rfl
  | 0, m + 1, s, h, _ => by
    obtain rfl : s = [] := List.length_eq_zero_iff.1 (by omega)
    rw [cleanN, cleanN, if_pos rfl]
  | n + 1, 0, s, _, h => by
    obtain rfl : s = [] := List.length_eq_zero_iff.1 (by omega)
    rw [cleanN, cleanN, if_pos rfl]
  | n + 1, m + 1, s, h1, h2 => by
    rw [cleanN, cleanN]
    split
    · rfl
    · split
      · rfl
      · exact cleanN_more n m _ (by rw [List.length_drop]; omega) (by rw [List.length_drop]; omega)
theorem clB_nil : clB [] = true := rfl
theorem clB_no {s : List UInt8} (h : ¬ s = []) (hc : charV s ≤ 0) : clB s = false := by
  unfold clB
  cases s with
  | nil => exact absurd rfl h
  | cons c s => rw [List.length_cons, cleanN, if_neg h, if_pos hc]
theorem clB_on {s : List UInt8} (h : ¬ s = []) (hc : ¬ charV s ≤ 0) : clB (s.drop (charV s).toNat) = clB s := by
  unfold clB
  cases s with
  | nil => exact absurd rfl h
  | cons c s =>
    rw [show cleanN (c :: s).length (c :: s) = cleanN s.length ((c :: s).drop (charV (c :: s)).toNat) by rw [List.length_cons, cleanN, if_neg h, if_neg hc]]
    exact cleanN_more _ _ _ (Nat.le_refl _) (by rw [List.length_drop, List.length_cons]; omega)

/-- Is what the kind does not name 0 or empty? -/
def plB (h : JH) (n : Nat) : Bool := !((!decide (h.kind = 3) && !decide (h.int = 0)) || (!decide (h.kind = 4) && !decide (h.text = []))) && (if h.kind = 6 then decide (h.names.length = n) else decide (h.names.length = 0) && (decide (h.kind = 5) || decide (n = 0)))
mutual
def chkV : JV → Int → Int
  | .mk h l, d => if 64 < d ∨ ((h.kind = 5 ∨ h.kind = 6) ∧ d = 64) then 17 else if h.kind < 0 ∨ 6 < h.kind ∨ plB h l.length = false ∨ clB h.text = false then 18 else chkL h.kind h.names l d 0
def chkL : Int → List (List UInt8) → List JV → Int → Nat → Int
  | _, _, [], _, _ => 0
  | k, ns, x :: l, d, i => if k = 6 ∧ clB (ns[i]?.getD []) = false then 18 else if k = 6 ∧ hasB (ns.take i) (ns[i]?.getD []) = true then 16 else if chkV x (d + 1) ≠ 0 then chkV x (d + 1) else chkL k ns l d (i + 1)
end
theorem plB_tidy {h : JH} {n : Nat} (e : plB h n = true) : (h.kind = 6 ∨ h.kind = 5 → h.int = 0 ∧ h.text = []) ∧ (h.kind = 5 → h.names = []) := by
  simp only [plB, Bool.and_eq_true, Bool.not_eq_true', Bool.or_eq_false_iff, Bool.and_eq_false_iff, Bool.not_eq_false', decide_eq_true_eq, decide_eq_false_iff_not] at e
  obtain ⟨⟨e1, e2⟩, e3⟩ := e
  refine ⟨fun hk => ⟨?_, ?_⟩, fun hk => ?_⟩
  · rcases e1 with e1 | e1
    · omega
    · exact e1
  · rcases e2 with e2 | e2
    · omega
    · exact e2
  · rw [if_neg (by omega)] at e3
    simp only [Bool.and_eq_true, decide_eq_true_eq] at e3
    exact List.length_eq_zero_iff.1 e3.1
mutual
theorem chk_tidy : ∀ (v : JV) (d : Int), chkV v d = 0 → tidyV v
  | .mk h l, d, e => by
    rw [chkV] at e
    split at e
    · cases e
    · split at e
      · cases e
      · rename_i q
        have hp : plB h l.length = true := by
          cases hh : plB h l.length with
          | true => rfl
          | false => exact absurd (.inr (.inr (.inl hh))) q
        have := plB_tidy hp
        rw [tidyV]
        exact ⟨this.1, this.2, chkL_tidy _ _ l d 0 e⟩
theorem chkL_tidy : ∀ (k : Int) (ns : List (List UInt8)) (l : List JV) (d : Int) (i : Nat), chkL k ns l d i = 0 → tidyVs l
  | _, _, [], _, _, _ => trivial
  | k, ns, x :: l, d, i, e => by
    rw [chkL] at e
    split at e
    · cases e
    · split at e
      · cases e
      · split at e
        · rename_i q; exact absurd e q
        · rename_i q
          rw [tidyVs]
          exact ⟨chk_tidy x (d + 1) (Classical.byContradiction q), chkL_tidy k ns l d (i + 1) e⟩
end
end Go.Ab

