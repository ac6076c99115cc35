/- What is proved: contracts of functions of this translation, walked; their plain meaning. No condition beyond those that each theorem names. -/
import Derived.Test.YtohlmhkiejpkgaaGreatDoorFb14
set_option linter.all false
namespace Go.Ac
open Go
abbrev objV (s : List UInt8) (v : JV) : JV := .mk ⟨6, 0, [], [s]⟩ [v]
theorem split_first {c : UInt8} : ∀ {s p : List UInt8} {ps : List (List UInt8)}, splitD c s = p :: ps → p ≠ [] → s[0]? = p[0]?
  | [], p, ps, h, hp => by simp only [splitD, List.cons.injEq] at h; exact absurd h.1.symm hp
  | x :: l, p, ps, h, hp => by
    simp only [splitD] at h
    split at h
    · simp only [List.cons.injEq] at h; exact absurd h.1.symm hp
    · split at h
      · simp only [List.cons.injEq] at h; rw [← h.1]; rfl
      · simp only [List.cons.injEq] at h; rw [← h.1]; rfl
theorem path_dollar {s : List UInt8} (h : parseE s = 0) : dollarB s = false := by
  unfold parseE at h
  cases e : splitD 46 s with
  | nil => exact absurd e (splitD_ne 46 s)
  | cons p ps =>
    rw [e] at h
    simp only [scanV] at h
    split at h
    · rename_i h2
      split at h2
      · cases h2
      · rename_i h3
        have hs : segB p = true := by cases hh : segB p with
          | true => rfl
          | false => exact absurd (.inl hh) h3
        unfold segB at hs
        simp only [Bool.and_eq_true, Bool.not_eq_true', decide_eq_true_eq, decide_eq_false_iff_not] at hs
        have hp : p ≠ [] := by intro hh; rw [hh] at hs; simp at hs
        unfold dollarB
        rw [split_first e hp]
        exact decide_eq_false hs.2
    · cases h
theorem joins_dollar {s : List UInt8} (h : joinsB s = true) : dollarB s = true := by
  simp only [joinsB, Bool.or_eq_true, decide_eq_true_eq] at h
  rcases h with (rfl | rfl) | rfl <;> rfl
theorem path_joins {s : List UInt8} (h : parseE s = 0) : joinsB s = false := by
  cases e : joinsB s with
  | false => rfl
  | true => have := joins_dollar e; rw [path_dollar h] at this; cases this
theorem obj_mems (s : List UInt8) (v : JV) : (objV s v).mems = [(s, v)] := rfl
theorem chk_obj {n : Nat} {path : List UInt8} {t : JV} {d c c' : Int} (hp : parseE path = 0) (ht : isTestB t = true) (hd : d ≤ 16) (h : chkT n t d c = .ok c') : chkQ (n + 1) (objV path t) d c = .ok c' := by
  have h6 : ¬ ((objV path t).kind ≠ 6) := fun h => h rfl
  rw [chkQ, if_neg h6, if_neg (by omega), obj_mems]
  simp only [foldX, path_joins hp, path_dollar hp, hp, ht, h, ne_eq, not_true_eq_false, if_false, if_true, Bool.false_eq_true]
theorem chk_op {n : Nat} {op : List UInt8} {x : JV} {d c : Int} (ho : isOp op = true) (hk : takesB op x = true) (h1 : op ≠ sNot) (h2 : op ≠ sElem) (hd : d ≤ 16) (hc : c < 64) : chkT (n + 1) (objV op x) d c = .ok (c + 1) := by
  have h6 : ¬ ((objV op x).kind ≠ 6 ∨ (objV op x).mems = []) := by rintro (h | h) <;> simp [obj_mems, JV.kind, JV.hd] at h
  rw [chkT, if_neg h6, if_neg (by omega), obj_mems]
  simp only [foldX, ho, hk, Bool.not_true, Bool.false_eq_true, if_false]
  rw [if_neg (by omega), if_neg h1, if_neg h2]
theorem match_obj {n : Nat} {path : List UInt8} {t d : JV} (hp : parseE path = 0) (ht : isTestB t = true) : matchF (n + 1) (objV path t) d = allF n t (allV d (parseP path)) := by
  rw [matchF, obj_mems]; simp [path_joins hp, ht]
theorem all_op {n : Nat} {op : List UInt8} {x : JV} {l : List JV} : allF (n + 1) (objV op x) l = opG (allF n) (matchF n) op x l := by
  rw [allF, obj_mems]; simp
end Go.Ac

