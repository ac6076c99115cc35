/- What is proved: contracts of functions of this translation, walked; their plain meaning. No condition beyond those that each theorem names. -/
import Derived.Test.YtjpaecoehajfdaaDoorTt18
set_option linter.all false
namespace Go.Ab
open Go Go.Proofs

theorem encV_fold (v : JV) : AV.agg [.val (.int .i64 v.kind), .val (.int .i64 v.int), .str v.text, .sl 1 (v.names.map AV.str) [], .sl 5 (v.items.map encV) []] = encV v := (encV_eq v).symm
theorem cntVs_set : ∀ {l : List JV} {i : Nat} {y z : JV}, l[i]? = some y → cntVs (l.set i z) + cntV y = cntVs l + cntV z
  | [], _, _, _, h => by simp at h
  | j :: l, 0, y, z, h => by simp at h; subst h; simp only [List.set_cons_zero, cntVs]; omega
  | j :: l, i + 1, y, z, h => by have := cntVs_set (l := l) (i := i) (y := y) (z := z) (by simpa using h); simp only [List.set_cons_succ, cntVs]; omega
theorem cntVs_app : ∀ l k : List JV, cntVs (l ++ k) = cntVs l + cntVs k
  | [], k => by simp [cntVs]
  | j :: l, k => by simp only [List.cons_append, cntVs, cntVs_app l k]; omega
theorem cntVs_take (l : List JV) (m : Nat) : cntVs (l.take m) ≤ cntVs l := by
  have := cntVs_app (l.take m) (l.drop m)
  rw [List.take_append_drop] at this; omega
theorem cntVs_cut (l : List JV) (i : Nat) : cntVs (l.take i ++ l.drop (i + 1)) ≤ cntVs l := by
  have h1 := cntVs_app (l.take i) (l.drop (i + 1))
  have h2 := cntVs_app (l.take i) (l.drop i)
  have h3 := cntVs_app ((l.drop i).take 1) ((l.drop i).drop 1)
  rw [List.take_append_drop] at h2 h3
  rw [List.drop_drop] at h3
  omega
theorem cntV_mk (h : JH) (l : List JV) : cntV (.mk h l) = 1 + h.names.length + cntVs l := by simp only [cntV]
theorem cntV_zero : cntV JV.zero = 1 := rfl
theorem cntV_fresh : ∀ (p : List (List UInt8)) (x : JV), cntV (freshV p x) = 2 * p.length + cntV x
  | [], x => by simp [freshV]
  | s :: p, x => by rw [freshV, cntV_mk]; simp only [List.length_cons, List.length_nil, cntVs, cntV_fresh p x]; omega
theorem cntV_put {v y z : JV} {i : Nat} (hy : v.items[i]? = some y) (hi : v.kind = 6 → i < v.mem) : cntV (v.put i z) + cntV y ≤ cntV v + cntV z := by
  rw [JV.put, cntV_eq v]
  split
  · rename_i hk
    rw [cntV_mk]
    have h1 : (v.items.take v.mem)[i]? = some y := by rw [List.getElem?_take, if_pos (hi hk), hy]
    have h2 := cntVs_set (z := z) h1
    have h3 := cntVs_take v.items v.mem
    simp only [List.length_take]; omega
  · rw [cntV_mk]
    have h2 := cntVs_set (z := z) hy
    simp only [List.length_nil]; omega
theorem cntV_grown (v y : JV) (s : List UInt8) : cntV (v.grown s y) ≤ cntV v + cntV y + 1 := by
  rw [JV.grown, cntV_eq v]
  split
  · rw [cntV_mk, cntVs_app]
    have h3 := cntVs_take v.items v.mem
    simp only [List.length_append, List.length_take, List.length_cons, List.length_nil, cntVs]; omega
  · rw [cntV_mk, cntVs_app]
    simp only [List.length_nil, cntVs]; omega
theorem child_memN {v : JV} {s : List UInt8} (h : ¬ v.child s < 0) : v.kind = 6 → (v.child s).toNat < v.mem := fun hk => by
  have := child_mem (v := v) (s := s) hk; omega
theorem cntV_set : ∀ (p : List (List UInt8)) (v x : JV), cntV (setV p v x).1 ≤ cntV v + cntV x + 2 * p.length
  | [], v, x => by rw [setV]; simp only; omega
  | s :: p, v, x => by
    have hv := cntV_pos v
    have hx := cntV_pos x
    rw [setV]
    split
    · simp only [cntV_zero]; omega
    · split
      · simp only [cntV_zero]; omega
      · split
        · have h1 := cntV_grown v (freshV p x) s
          have h2 := cntV_fresh p x
          simp only [List.length_cons]; omega
        · rename_i hc
          split
          · rename_i y hy
            split
            · have h1 := cntV_put (z := (setV p y x).1) hy (child_memN hc)
              have h2 := cntV_set p y x
              simp only [List.length_cons]; omega
            · simp only [cntV_zero]; omega
          · simp only [cntV_zero]; omega
theorem cntV_unset : ∀ (p : List (List UInt8)) (v : JV), cntV (unsetV p v).1 ≤ cntV v
  | [], v => by rw [unsetV]; exact Nat.le_refl _
  | s :: p, v => by
    rw [unsetV]
    split
    · exact Nat.le_refl _
    · rename_i z hz
      have hc := getV_child hz
      obtain ⟨y, hy⟩ := child_get (j := v) (s := s) (by omega)
      have hp := cntV_pos y
      split
      · split
        · have h1 := cntV_put (z := JV.zero) hy (child_memN hc)
          rw [cntV_zero] at h1; simp only; omega
        · simp only
          rw [JV.cut, cntV_mk, cntV_eq v]
          have h1 := cntVs_cut (v.items.take v.mem) (v.child s).toNat
          have h2 := cntVs_take v.items v.mem
          simp only [List.length_append, List.length_take, List.length_drop]; omega
      · rw [hy]
        have h1 := cntV_put (z := (unsetV p y).1) hy (child_memN hc)
        have h2 := cntV_unset p y
        simp only; omega

end Go.Ab

