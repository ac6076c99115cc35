/- What is proved: contracts of functions of this translation, walked; their plain meaning. No condition beyond those that each theorem names. -/
import Derived.Test.YtkpppapgbplokaaGreatDoorPc
set_option linter.all false
namespace Go.Ac
open Go
set_option maxRecDepth 4000
mutual
theorem leaves_cnt : ∀ v : JV, leavesV v ≤ cntV v
  | .mk h l => by
    rw [leavesV, cntV]
    split
    · omega
    · have := leavesM_cnt h.names l; omega
theorem leavesM_cnt : ∀ (ns : List (List UInt8)) (l : List JV), leavesM ns l ≤ cntVs l
  | ns, [] => by cases ns <;> simp [leavesM]
  | [], _ :: _ => by simp [leavesM]
  | _ :: ns, x :: l => by
    have := leaves_cnt x; have := leavesM_cnt ns l
    simp only [leavesM, cntVs]; omega
end
theorem leavesM_nil {ns : List (List UInt8)} {l : List JV} (h : ns = [] ∨ l = []) : leavesM ns l = 0 := by
  rcases h with rfl | rfl
  · cases l <;> rfl
  · cases ns <;> rfl
def anyC (p : List (List UInt8)) (l : List (List (List UInt8))) : Bool := l.any fun q => clashB p q
def cBG : List (List (List UInt8)) → List (List (List UInt8)) → Bool
  | _, [] => false
  | pre, p :: l => anyC p pre || cBG (pre ++ [p]) l
def cB (ps : List (List (List UInt8))) : Bool := cBG [] ps
theorem cBG_app : ∀ (l pre : List (List (List UInt8))) (p : List (List UInt8)), cBG pre (l ++ [p]) = (cBG pre l || anyC p (pre ++ l))
  | [], pre, p => by simp [cBG]
  | q :: l, pre, p => by
    rw [List.cons_append, cBG, cBG_app l, cBG, Bool.or_assoc, List.append_assoc, List.singleton_append]
theorem cB_app (l : List (List (List UInt8))) (p : List (List UInt8)) : cB (l ++ [p]) = (cB l || anyC p l) := by rw [cB, cBG_app]; rfl
theorem restsG_bd (s : List UInt8) : ∀ (l out : List (List (List UInt8))), (restsG s out l).1.length ≤ out.length + l.length
  | [], out => by simp [restsG]
  | p :: l, out => by
    rw [restsG]
    split
    · split
      · simp
      · have := restsG_bd s l (out ++ [p.tail])
        simp only [List.length_append, List.length_cons, List.length_nil] at this ⊢; omega
    · have := restsG_bd s l out
      simp only [List.length_cons]; omega
theorem rests_len (ps : List (List (List UInt8))) (s : List UInt8) : (restsV ps s).1.length ≤ ps.length := by have := restsG_bd s ps []; simpa [restsV] using this
theorem restsG_ne (s : List UInt8) : ∀ (l out : List (List (List UInt8))), (∀ q ∈ out, q ≠ []) → (∀ q ∈ l, q ≠ []) → ∀ q ∈ (restsG s out l).1, q ≠ []
  | [], out, h, _ => by simpa [restsG] using h
  | p :: l, out, h, hl => by
    rw [restsG]
    have hl2 : ∀ q ∈ l, q ≠ [] := fun q hq => hl q (by simp [hq])
    split
    · split
      · simp
      · rename_i hn
        refine restsG_ne s l _ (fun q hq => ?_) hl2
        rcases List.mem_append.1 hq with e | e
        · exact h q e
        · simp only [List.mem_singleton] at e
          subst e
          intro e2
          have hp := hl p (by simp)
          cases p with
          | nil => exact hp rfl
          | cons a b => simp only [List.tail_cons] at e2; subst e2; exact hn rfl
    · exact restsG_ne s l out h hl2
theorem rests_ne {ps : List (List (List UInt8))} (h : ∀ q ∈ ps, q ≠ []) (s : List UInt8) : ∀ q ∈ (restsV ps s).1, q ≠ [] := restsG_ne s ps [] (by simp) h
theorem restsG_snd (s : List UInt8) : ∀ (l out : List (List (List UInt8))), (restsG s out l).2 = true → (restsG s out l).1 = []
  | [], out => by simp [restsG]
  | p :: l, out => by
    rw [restsG]
    split
    · split
      · simp
      · exact restsG_snd s l _
    · exact restsG_snd s l _
mutual
theorem thr_cnt (b : Bool) : ∀ (ps : List (List (List UInt8))) (v : JV), cntV (thrV b ps v) ≤ cntV v
  | ps, .mk h l => by
    rw [thrV]
    split
    · have := thrL_cnt b ps l; simp only [cntV, List.length_nil]; omega
    · split
      · have := thrM_cnt b ps h.names l; simp only [cntV]; omega
      · exact Nat.le_refl _
theorem thrL_cnt (b : Bool) : ∀ (ps : List (List (List UInt8))) (l : List JV), cntVs (thrL b ps l) ≤ cntVs l
  | ps, [] => by simp [thrL, cntVs]
  | ps, x :: l => by
    have := thr_cnt b ps x; have := thrL_cnt b ps l
    rw [thrL]
    split
    · simp only [cntVs]; omega
    · simp only [cntVs]; omega
theorem thrM_cnt (b : Bool) : ∀ (ps : List (List (List UInt8))) (ns : List (List UInt8)) (l : List JV), (thrM b ps ns l).1.length + cntVs (thrM b ps ns l).2 ≤ ns.length + cntVs l
  | ps, ns, [] => by cases ns <;> simp [thrM, cntVs]
  | ps, [], x :: l => by simp [thrM, cntVs]
  | ps, s :: ns, x :: l => by
    have h1 := thr_cnt b (restsV ps s).1 x; have h2 := thrM_cnt b ps ns l
    rw [thrM]
    split
    · simp only [cntVs, List.length_cons]; omega
    · split
      · simp only [cntVs, List.length_cons]; omega
      · simp only [cntVs, List.length_cons]; omega
end
mutual
theorem parts_cnt : ∀ (v : JV) (m : Int), partsV v m ≤ m → (cntV v : Int) = partsV v m
  | .mk h l, m, hm => by
    rw [partsV] at hm ⊢
    rw [cntV]
    have := partsL_cnt l m (1 + h.names.length) hm
    omega
theorem partsL_cnt : ∀ (l : List JV) (m n : Int), partsL l m n ≤ m → (cntVs l : Int) + n = partsL l m n
  | [], m, n, hm => by simp [partsL, cntVs]
  | x :: l, m, n, hm => by
    rw [partsL] at hm ⊢
    split at hm
    · rename_i e
      rw [if_pos e]
      have h2 := partsL_cnt l m _ hm
      have h0 : n + partsV x (m - n) ≤ m := by have : (0 : Int) ≤ cntVs l := Int.natCast_nonneg _; omega
      have h1 := parts_cnt x (m - n) (by omega)
      rw [cntVs]; omega
    · rename_i e; exact absurd hm e
end
end Go.Ac

