/- What is proved: contracts of functions of this translation, walked; their plain meaning. No condition beyond those that each theorem names. -/
import Derived.Test.YtohlmhkiejpkgaaGreatDoorPt
import Derived.Test.YtohlmhkiejpkgaaGreatDoorFo2
set_option linter.all false
namespace Go.Ac
open Go
def neededF (s : List UInt8) : Int := if s = sEq then 1 else if s = sGt then 2 else if s = sGte then 3 else if s = sLt then 4 else if s = sLte then 5 else if s = sIn then 6 else 0
abbrev Nd := List UInt8 × Int × JV
def needT (s : List UInt8) (ms : List (List UInt8 × JV)) : List Nd := ms.flatMap fun p => if 0 < neededF p.1 then [(s, neededF p.1, p.2)] else []
def clauseM (n : Nat) (v : JV) : List (List UInt8 × JV) := if isTestB v then (match n with | 0 => [] | _ + 1 => v.mems) else [(sEq, v)]
def needF : Nat → JV → List Nd
  | 0, _ => []
  | n + 1, q => q.mems.flatMap fun p => if joinsB p.1 then (if p.1 = sAnd then p.2.items.flatMap (needF n) else []) else needT p.1 (clauseM n p.2)
def needG (n : Nat) (p : List UInt8 × JV) : List Nd := if joinsB p.1 then (if p.1 = sAnd then p.2.items.flatMap (needF n) else []) else needT p.1 (clauseM n p.2)
theorem needF_eq (n : Nat) (q : JV) : needF (n + 1) q = q.mems.flatMap (needG n) := by rw [needF]; rfl
theorem needT_len (s : List UInt8) (ms : List (List UInt8 × JV)) : (needT s ms).length ≤ ms.length := by
  unfold needT
  induction ms with
  | nil => simp
  | cons p ms ih => simp only [List.flatMap_cons, List.length_append, List.length_cons]; split <;> simp only [List.length_cons, List.length_nil] <;> omega
theorem clauseM_len (n : Nat) (v : JV) : (clauseM n v).length ≤ cntV v := by
  have := cntV_len v
  have h1 := v.mem_names
  have h2 := v.mems_len
  unfold clauseM
  split
  · cases n with
    | zero => simp
    | succ n => simp only; omega
  · simp only [List.length_cons, List.length_nil]; omega
theorem need_len : ∀ (n : Nat) (q : JV), (needF n q).length ≤ cntV q
  | 0, q => by simp [needF]
  | n + 1, q => by
    rw [needF_eq, cntV_eq]
    have := zip_cnt (needG n) (fun p => by
      have h1 := flat_cnt (needF n) (need_len n) p.2.items
      have h2 := needT_len p.1 (clauseM n p.2)
      have h3 := clauseM_len n p.2
      have h4 := cntV_eq p.2
      unfold needG
      split
      · split
        · omega
        · simp
      · omega) q.names q.items
    unfold JV.mems; omega
theorem opG_need {A A' : JV → List JV → Bool} {M M' : JV → JV → Bool} {w : List UInt8} {x : JV} {l : List JV} (h : 0 < neededF w) : opG A M w x l = opG A' M' w x l := by
  unfold neededF at h
  repeat' split at h
  all_goals first
    | (subst_vars; simp only [opG_eq, opG_in]; done)
    | (subst_vars; simp [opG, sNe, sNin, sNot, sEq, sIn, sAll, sExists, sSize, sElem, sGt, sGte, sLt, sLte]; done)
    | omega
def wordN (op : Int) : List UInt8 := if op = 1 then sEq else if op = 2 then sGt else if op = 3 then sGte else if op = 4 then sLt else if op = 5 then sLte else sIn
theorem word_needed {w : List UInt8} (h : 0 < neededF w) : wordN (neededF w) = w ∧ neededF w ≤ 6 := by
  unfold neededF at h ⊢
  repeat' split at h
  all_goals first
    | (subst_vars; simp [wordN, sEq, sGt, sGte, sLt, sLte, sIn]; done)
    | omega
structure NeedOK (d : JV) (x : Nd) : Prop where
  e : parseE x.1 = 0
  op : 1 ≤ x.2.1 ∧ x.2.1 ≤ 6
  is : isOp (wordN x.2.1) = true
  tk : takesB (wordN x.2.1) x.2.2 = true
  dl : dollarB (wordN x.2.1) = true
  n1 : wordN x.2.1 ≠ sNot
  n2 : wordN x.2.1 ≠ sElem
  m : ∀ n, matchF (n + 2) (objV x.1 (objV (wordN x.2.1) x.2.2)) d = true
theorem word_facts (op : Int) : isOp (wordN op) = true ∧ dollarB (wordN op) = true ∧ wordN op ≠ sNot ∧ wordN op ≠ sElem := by
  unfold wordN
  repeat' split
  all_goals exact ⟨rfl, rfl, by decide, by decide⟩
theorem needT_ok {s : List UInt8} {d : JV} {ms : List (List UInt8 × JV)} (hE : parseE s = 0) (h : ∀ p ∈ ms, takesB p.1 p.2 = true ∧ (0 < neededF p.1 → ∀ A M, opG A M p.1 p.2 (allV d (parseP s)) = true)) : ∀ x ∈ needT s ms, NeedOK d x := by
  intro x hx
  unfold needT at hx
  obtain ⟨p, hp, hx⟩ := List.mem_flatMap.1 hx
  split at hx
  · rename_i hn
    rw [List.mem_singleton] at hx
    subst hx
    obtain ⟨w1, w2⟩ := word_needed hn
    obtain ⟨f1, f2, f3, f4⟩ := word_facts (neededF p.1)
    obtain ⟨t1, t2⟩ := h p hp
    refine ⟨hE, ⟨by simp only; omega, w2⟩, f1, ?_, f2, f3, f4, fun n => ?_⟩
    · simp only; rw [w1]; exact t1
    · simp only
      rw [match_obj (t := objV (wordN (neededF p.1)) p.2) hE f2, all_op, w1]
      exact t2 hn _ _
  · cases hx
theorem foldX_chkT {n : Nat} {v : JV} {d c c' : Int} (h : chkT (n + 1) v d c = .ok c') : ∀ p ∈ v.mems, takesB p.1 p.2 = true := by
  intro p hp
  rw [chkT] at h
  split at h
  · cases h
  split at h
  · cases h
  obtain ⟨u, u', hu⟩ := foldX_all h p hp
  split at hu
  · cases hu
  split at hu
  · cases hu
  split at hu
  · cases hu
  · rename_i h3; simpa using h3
theorem chk_test {n : Nat} {q : JV} {d c c' : Int} (h : chkQ (n + 1) q d c = .ok c') {p : List UInt8 × JV} (hp : p ∈ q.mems) (hj : joinsB p.1 = false) (ht : isTestB p.2 = true) : ∃ d u u', chkT n p.2 d u = .ok u' := by
  rw [chkQ] at h
  split at h
  · cases h
  split at h
  · cases h
  obtain ⟨u, u', hu⟩ := foldX_all h p hp
  rw [hj] at hu
  simp only [Bool.false_eq_true, if_false] at hu
  split at hu
  · cases hu
  split at hu
  · cases hu
  first | exact ⟨_, _, _, hu⟩ | (rw [if_pos ht] at hu; exact ⟨_, _, _, hu⟩)
theorem need_ok (d : JV) : ∀ (n : Nat) (q : JV) (e c c' : Int), chkQ n q e c = .ok c' → matchF n q d = true → ∀ x ∈ needF n q, NeedOK d x
  | 0, q, e, c, c', h, hm, x, hx => by simp [needF] at hx
  | n + 1, q, e, c, c', h, hm, x, hx => by
    rw [needF_eq] at hx
    obtain ⟨p, hp, hx⟩ := List.mem_flatMap.1 hx
    rw [matchF] at hm
    have hmp := List.all_eq_true.1 hm p hp
    unfold needG at hx
    rcases chk_mem h hp with ⟨hj, hy⟩ | ⟨hj, hd, hE⟩
    · rw [hj] at hx hmp
      simp only [if_true] at hx hmp
      split at hx
      · rename_i ha
        obtain ⟨y, hy1, hy2⟩ := List.mem_flatMap.1 hx
        obtain ⟨u, u', hu⟩ := hy y hy1
        rw [if_pos ha] at hmp
        exact need_ok d n y _ _ _ hu (List.all_eq_true.1 hmp y hy1) x hy2
      · cases hx
    · rw [hj] at hx hmp
      simp only [Bool.false_eq_true, if_false] at hx hmp
      unfold clauseM at hx
      cases ht : isTestB p.2 with
      | true =>
        rw [ht] at hx hmp
        simp only [if_true] at hx hmp
        cases n with
        | zero => simp [needT] at hx
        | succ n =>
          obtain ⟨d2, u, u', hu⟩ := chk_test h hp hj ht
          have ht2 := foldX_chkT hu
          rw [allF] at hmp
          refine needT_ok hE (fun m hm2 => ⟨ht2 m hm2, fun hn A M => ?_⟩) x hx
          have := List.all_eq_true.1 hmp m hm2
          rw [← this]; exact opG_need hn
      | false =>
        rw [ht] at hx hmp
        simp only [Bool.false_eq_true, if_false] at hx hmp
        refine needT_ok hE (fun m hm2 => ?_) x hx
        rw [List.mem_singleton] at hm2
        subst hm2
        exact ⟨rfl, fun _ A M => by rw [opG_eq]; exact hmp⟩
end Go.Ac

