/- What is proved: contracts of functions of this translation, walked; their plain meaning. No condition beyond those that each theorem names. -/
import Derived.Test.YtohlmhkiejpkgaaGreatDoorFb14
set_option linter.all false
namespace Go.Ac
open Go
abbrev objV (s : List UInt8) (v : JV) : JV := .mk ⟨6, 0, [], [s]⟩ [v]
abbrev lstV (l : List JV) : JV := .mk ⟨5, 0, [], []⟩ l
theorem split_first {c : UInt8} : ∀ {s p : List UInt8} {ps : List (List UInt8)}, splitD c s = p :: ps → p ≠ [] → s[0]? = p[0]?
  | [], p, ps, h, hp => by simp only [splitD, List.cons.injEq] at h; exact absurd h.1.symm hp
  | x :: l, p, ps, h, hp => by
    simp only [splitD] at h
    split at h
    · simp only [List.cons.injEq] at h; exact absurd h.1.symm hp
    · split at h
      · simp only [List.cons.injEq] at h; rw [← h.1]; rfl
      · simp only [List.cons.injEq] at h; rw [← h.1]; rfl
theorem path_dollar {s : List UInt8} (h : parseE s = 0) : dollarB s = false := by
  unfold parseE at h
  cases e : splitD 46 s with
  | nil => exact absurd e (splitD_ne 46 s)
  | cons p ps =>
    rw [e] at h
    simp only [scanV] at h
    split at h
    · rename_i h2
      split at h2
      · cases h2
      · rename_i h3
        have hs : segB p = true := by cases hh : segB p with
          | true => rfl
          | false => exact absurd (.inl hh) h3
        unfold segB at hs
        simp only [Bool.and_eq_true, Bool.not_eq_true', decide_eq_true_eq, decide_eq_false_iff_not] at hs
        have hp : p ≠ [] := by intro hh; rw [hh] at hs; simp at hs
        unfold dollarB
        rw [split_first e hp]
        exact decide_eq_false hs.2
    · cases h
theorem joins_dollar {s : List UInt8} (h : joinsB s = true) : dollarB s = true := by
  simp only [joinsB, Bool.or_eq_true, decide_eq_true_eq] at h
  rcases h with (rfl | rfl) | rfl <;> rfl
theorem path_joins {s : List UInt8} (h : parseE s = 0) : joinsB s = false := by
  cases e : joinsB s with
  | false => rfl
  | true => have := joins_dollar e; rw [path_dollar h] at this; cases this
theorem obj_mems (s : List UInt8) (v : JV) : (objV s v).mems = [(s, v)] := rfl
theorem chk_obj {n : Nat} {path : List UInt8} {t : JV} {d c c' : Int} (hp : parseE path = 0) (ht : isTestB t = true) (hd : d ≤ 16) (h : chkT n t d c = .ok c') : chkQ (n + 1) (objV path t) d c = .ok c' := by
  have h6 : ¬ ((objV path t).kind ≠ 6) := fun h => h rfl
  rw [chkQ, if_neg h6, if_neg (by omega), obj_mems]
  simp only [foldX, path_joins hp, path_dollar hp, hp, ht, h, ne_eq, not_true_eq_false, if_false, if_true, Bool.false_eq_true]
theorem chk_op {n : Nat} {op : List UInt8} {x : JV} {d c : Int} (ho : isOp op = true) (hk : takesB op x = true) (h1 : op ≠ sNot) (h2 : op ≠ sElem) (hd : d ≤ 16) (hc : c < 64) : chkT (n + 1) (objV op x) d c = .ok (c + 1) := by
  have h6 : ¬ ((objV op x).kind ≠ 6 ∨ (objV op x).mems = []) := by rintro (h | h) <;> simp [obj_mems, JV.kind, JV.hd] at h
  rw [chkT, if_neg h6, if_neg (by omega), obj_mems]
  simp only [foldX, ho, hk, Bool.not_true, Bool.false_eq_true, if_false]
  rw [if_neg (by omega), if_neg h1, if_neg h2]
theorem chk_not {n : Nat} {x : JV} {d c c' : Int} (hd : d ≤ 16) (hc : c < 64) (h : chkT n x (d + 1) (c + 1) = .ok c') : chkT (n + 1) (objV sNot x) d c = .ok c' := by
  have h6 : ¬ ((objV sNot x).kind ≠ 6 ∨ (objV sNot x).mems = []) := by rintro (h | h) <;> simp [obj_mems, JV.kind, JV.hd] at h
  rw [chkT, if_neg h6, if_neg (by omega), obj_mems]
  have e1 : isOp sNot = true := by decide
  have e2 : takesB sNot x = true := rfl
  simp only [foldX, e1, e2, Bool.not_true, Bool.false_eq_true, if_false, if_true, h]
  rw [if_neg (by omega)]
theorem chk_join {n : Nat} {j : List UInt8} {l : List JV} {d c c' : Int} (hj : joinsB j = true) (hl : l ≠ []) (hd : d ≤ 16) (h : foldX (fun y t => chkQ n y (d + 1) t) l c = .ok c') : chkQ (n + 1) (objV j (lstV l)) d c = .ok c' := by
  have h6 : ¬ ((objV j (lstV l)).kind ≠ 6) := fun h => h rfl
  have h7 : ¬ ((lstV l).kind ≠ 5 ∨ (lstV l).items = []) := by
    rintro (h | h)
    · exact h rfl
    · exact hl h
  rw [chkQ, if_neg h6, if_neg (by omega), obj_mems]
  simp only [foldX, hj, if_true, if_neg h7]
  show (match foldX (fun y t => chkQ n y (d + 1) t) l c with | .ok t' => Except.ok t' | .error e => Except.error e) = _
  rw [h]
theorem match_obj {n : Nat} {path : List UInt8} {t d : JV} (hp : parseE path = 0) (ht : isTestB t = true) : matchF (n + 1) (objV path t) d = allF n t (allV d (parseP path)) := by
  rw [matchF, obj_mems]; simp [path_joins hp, ht]
theorem all_op {n : Nat} {op : List UInt8} {x : JV} {l : List JV} : allF (n + 1) (objV op x) l = opG (allF n) (matchF n) op x l := by
  rw [allF, obj_mems]; simp
theorem match_and {n : Nat} {a d : JV} : matchF (n + 1) (objV sAnd (lstV [a])) d = matchF n a d := by
  rw [matchF, obj_mems]; simp [show joinsB sAnd = true by decide, JV.items]
theorem match_nor {n : Nat} {a d : JV} : matchF (n + 1) (objV sNor (lstV [a])) d = !matchF n a d := by
  rw [matchF, obj_mems]; simp [show joinsB sNor = true by decide, show ¬ sNor = sAnd by decide, show ¬ sNor = sOr by decide, JV.items]
theorem match_or {n : Nat} {a b d : JV} : matchF (n + 1) (objV sOr (lstV [a, b])) d = (matchF n a d || matchF n b d) := by
  rw [matchF, obj_mems]; simp [show joinsB sOr = true by decide, show ¬ sOr = sAnd by decide, JV.items]
structure TestOK (n : Nat) (t : JV) : Prop where
  is : isTestB t = true
  chk : ∀ d c : Int, d ≤ 3 → c ≤ 10 → ∃ c', chkT n t d c = .ok c' ∧ c' ≤ c + 2
theorem testOK_op {n : Nat} {op : List UInt8} {x : JV} (hd : dollarB op = true) (ho : isOp op = true) (hk : takesB op x = true) (h1 : op ≠ sNot) (h2 : op ≠ sElem) : TestOK (n + 1) (objV op x) :=
  ⟨hd, fun d c h3 h4 => ⟨_, chk_op ho hk h1 h2 (by omega) (by omega), by omega⟩⟩
theorem testOK_not {n : Nat} {op : List UInt8} {x : JV} (ho : isOp op = true) (hk : takesB op x = true) (h1 : op ≠ sNot) (h2 : op ≠ sElem) : TestOK (n + 2) (objV sNot (objV op x)) :=
  ⟨rfl, fun d c h3 h4 => ⟨_, chk_not (by omega) (by omega) (chk_op ho hk h1 h2 (by omega) (by omega)), by omega⟩⟩
theorem chk_one {n : Nat} {path : List UInt8} {t : JV} (hp : parseE path = 0) (h : TestOK n t) {d c : Int} (hd : d ≤ 3) (hc : c ≤ 10) : ∃ c', chkQ (n + 1) (objV path t) d c = .ok c' ∧ c' ≤ c + 2 := by
  obtain ⟨c', h1, h2⟩ := h.chk d c hd hc
  exact ⟨c', chk_obj hp h.is (by omega) h1, h2⟩
theorem chk_join1 {n : Nat} {j path : List UInt8} {t : JV} (hj : joinsB j = true) (hp : parseE path = 0) (h : TestOK n t) : ∃ c', chkQ (n + 2) (objV j (lstV [objV path t])) 0 0 = .ok c' := by
  obtain ⟨c', h1, h2⟩ := chk_one hp h (d := 1) (c := 0) (by omega) (by omega)
  exact ⟨c', chk_join hj (by simp) (by omega) (by simp [foldX, h1])⟩
theorem chk_join2 {n : Nat} {j path : List UInt8} {t u : JV} (hj : joinsB j = true) (hp : parseE path = 0) (h : TestOK n t) (k : TestOK n u) : ∃ c', chkQ (n + 2) (objV j (lstV [objV path t, objV path u])) 0 0 = .ok c' := by
  obtain ⟨c1, h1, h2⟩ := chk_one hp h (d := 1) (c := 0) (by omega) (by omega)
  obtain ⟨c2, h3, h4⟩ := chk_one hp k (d := 1) (c := c1) (by omega) (by omega)
  exact ⟨c2, chk_join hj (by simp) (by omega) (by simp [foldX, h1, h3])⟩
end Go.Ac

