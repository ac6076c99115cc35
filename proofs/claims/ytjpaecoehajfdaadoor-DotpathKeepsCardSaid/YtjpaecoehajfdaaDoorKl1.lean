/- What is proved: contracts of functions of this translation, walked; their plain meaning. No condition beyond those that each theorem names. -/
import Derived.Test.YtjpaecoehajfdaaDoorOl5
set_option linter.all false
namespace Go.Ab
open Go Go.Proofs

/-- Where the next child lies hangs on the kind, the names and the number of items alone. -/
theorem child_congr {a b : JV} (hk : a.kind = b.kind) (hn : a.names = b.names) (hl : a.items.length = b.items.length) (t : List UInt8) : a.child t = b.child t := by
  have hm : a.mem = b.mem := by unfold JV.mem; rw [hn, hl]
  unfold JV.child JV.place
  rw [hk, hn, hl, hm]
theorem put_names {v y : JV} {i : Nat} (h : knownP v) (hk : v.kind = 6) : (v.put i y).names = v.names := by rw [put6 h hk]; rfl
theorem put_names5 {v y : JV} {i : Nat} (hk : ¬ v.kind = 6) : (v.put i y).names = [] := by rw [put5 hk]; rfl
theorem child_put' {v y : JV} {i : Nat} {t : List UInt8} (h : knownP v) : (v.put i y).child t = v.child t := by
  rw [← child_put (i := i) (y := JV.zero) (t := t) h zero_known]
  refine child_congr (put_kind.trans put_kind.symm) ?_ (by rw [put_items h, put_items h, List.length_set, List.length_set]) t
  by_cases hk : v.kind = 6
  · rw [put_names h hk, put_names h hk]
  · rw [put_names5 hk, put_names5 hk]
theorem grown_names {v y z : JV} {s : List UInt8} (h : knownP v) : (v.grown s y).names = (v.grown s z).names := by
  by_cases hk : v.kind = 6
  · rw [grown6 h hk, grown6 h hk]; rfl
  · rw [grown5 hk, grown5 hk]; rfl
theorem child_grown' {v y : JV} {s : List UInt8} (h : knownP v) (hv : valS v s) (hc : v.child s < 0) : (v.grown s y).child s = (v.items.length : Nat) := by
  rw [← child_grown (y := JV.zero) h zero_known hv hc]
  exact child_congr (grown_kind.trans grown_kind.symm) (grown_names h) (by rw [grown_items h, grown_items h, List.length_append, List.length_append]; rfl) s
/-- A new child leaves the others where they are. -/
theorem child_grown_ne' {v y : JV} {s t : List UInt8} (h : knownP v) (hv : valS v s) (hc : v.child s < 0) (hne : t ≠ s) : (v.grown s y).child t = v.child t := by
  have e : (v.grown s y).child t = (v.grown s JV.zero).child t := child_congr (grown_kind.trans grown_kind.symm) (grown_names h) (by rw [grown_items h, grown_items h, List.length_append, List.length_append]; rfl) t
  rw [e]
  by_cases hk : v.kind = 6
  · exact child_grown_ne h zero_known hv hc hne fun r => absurd hk r
  · obtain ⟨h1, h2, h3⟩ := new_ix hk hv hc
    by_cases ht : idxOk t = true
    · exact child_grown_ne h zero_known hv hc hne fun _ q => hne (idx_inj ht h2 q)
    · rw [child_none (by rw [grown_kind]; exact hk) (fun q => ht q.2.1), child_none hk (fun q => ht q.2.1)]
theorem val_of_child {v : JV} {s : List UInt8} (h : ¬ v.child s < 0) : valS v s := by
  by_cases h6 : v.kind = 6
  · exact .inl h6
  · refine .inr ?_
    by_cases q : v.kind = 5 ∧ idxOk s = true ∧ (idx s : Int) < v.items.length
    · exact ⟨q.1, q.2.1, by have := q.2.2; omega⟩
    · rw [child_none h6 q] at h; omega
theorem getV_down {v z : JV} {s : List UInt8} {p : List (List UInt8)} (h : getV v (s :: p) = some z) : ∃ y, ¬ v.child s < 0 ∧ v.items[(v.child s).toNat]? = some y ∧ getV y p = some z := by
  have hc := getV_child h
  obtain ⟨y, hy⟩ := child_get (j := v) (s := s) (by omega)
  exact ⟨y, hc, hy, by rw [getV_step (by omega) hy] at h; exact h⟩
theorem fresh_get : ∀ (p : List (List UInt8)) (x : JV), getV (freshV p x) p = some x
  | [], x => rfl
  | s :: p, x => by
    have e : (freshV (s :: p) x).child s = 0 := by
      rw [show freshV (s :: p) x = .mk ⟨6, 0, [], [s]⟩ [freshV p x] from rfl]
      rw [child_congr (a := .mk ⟨6, 0, [], [s]⟩ [freshV p x]) (b := .mk ⟨6, 0, [], [s]⟩ [JV.zero]) rfl rfl rfl s]
      have hkn : knownP (.mk ⟨6, 0, [], [s]⟩ [JV.zero]) := known_fresh [s] zero_known
      exact child_at hkn rfl rfl
    rw [getV, if_neg (by omega), e]
    exact fresh_get p x

/-- What was laid at a path is there. -/
theorem get_set : ∀ (p : List (List UInt8)) (v x : JV), knownP v → (setV p v x).2 = 0 → getV (setV p v x).1 p = some x
  | [], v, x, _, _ => rfl
  | s :: p, v, x, hv, h => by
    obtain ⟨hs, o⟩ := setV_ok h
    rcases o with ⟨h1, h2⟩ | ⟨u, h1, h2, h3, h4⟩
    · rw [h2, getV_step (x := freshV p x) (by rw [child_grown' hv hs h1]; omega) (by rw [child_grown' hv hs h1, Int.toNat_natCast, grown_items hv, List.getElem?_append_right (Nat.le_refl _), Nat.sub_self]; rfl)]
      exact fresh_get p x
    · have hlt := get_lt h2
      rw [h4, getV_step (x := (setV p u x).1) (by rw [child_put' hv]; omega) (by rw [child_put' hv, put_items hv, List.getElem?_set_self hlt])]
      exact get_set p u x (known_item hv h2) h3
theorem clash_ne' {p q : List (List UInt8)} (h : clashB p q = false) : p ≠ [] ∧ q ≠ [] := by
  cases p with
  | nil => simp [clashB] at h
  | cons s p =>
    cases q with
    | nil => simp [clashB] at h
    | cons t q => simp
theorem fresh_miss : ∀ (p q : List (List UInt8)) (x : JV), clashB p q = false → getV (freshV p x) q = none
  | [], _, _, h => absurd rfl (clash_ne' h).1
  | _ :: _, [], _, h => absurd rfl (clash_ne' h).2
  | s :: p, t :: q, x, h => by
    have e : ∀ r, (freshV (s :: p) x).child r = (freshV [s] JV.zero).child r := fun r => child_congr rfl rfl rfl r
    have hkn : knownP (freshV [s] JV.zero) := known_fresh [s] zero_known
    by_cases hst : s = t
    · subst hst
      rw [clashB, if_pos rfl] at h
      have e2 : (freshV (s :: p) x).child s = 0 := by rw [e]; exact child_at hkn rfl rfl
      rw [getV, if_neg (by omega), e2]
      exact fresh_miss p q x h
    · exact getV_none (by rw [e, child_no rfl (by show t ∉ [s]; simp [Ne.symm hst])]; omega)
theorem put_other {v y : JV} {s t : List UInt8} {q : List (List UInt8)} (hv : knownP v) (hne : s ≠ t) (hs : ¬ v.child s < 0) : getV (v.put (v.child s).toNat y) (t :: q) = getV v (t :: q) := by
  rw [getV, getV, child_put' hv]
  split
  · rfl
  · rename_i ht
    have := child_ne hv (val_of_child hs) (val_of_child ht) hne hs
    rw [put_items hv, List.getElem?_set_ne (by omega)]

/-- What does not clash with the path of a Set has what it had. -/
theorem get_set_ne : ∀ (p q : List (List UInt8)) (v x : JV), knownP v → clashB p q = false → (setV p v x).2 = 0 → getV (setV p v x).1 q = getV v q
  | [], _, _, _, _, h, _ => absurd rfl (clash_ne' h).1
  | _ :: _, [], _, _, _, h, _ => absurd rfl (clash_ne' h).2
  | s :: p, t :: q, v, x, hv, hc, h => by
    obtain ⟨hs, o⟩ := setV_ok h
    by_cases hst : s = t
    · subst hst
      rw [clashB, if_pos rfl] at hc
      rcases o with ⟨h1, h2⟩ | ⟨u, h1, h2, h3, h4⟩
      · rw [h2, getV_step (x := freshV p x) (by rw [child_grown' hv hs h1]; omega) (by rw [child_grown' hv hs h1, Int.toNat_natCast, grown_items hv, List.getElem?_append_right (Nat.le_refl _), Nat.sub_self]; rfl), getV_none h1]
        exact fresh_miss p q x hc
      · have hlt := get_lt h2
        rw [h4, getV_step (x := (setV p u x).1) (by rw [child_put' hv]; omega) (by rw [child_put' hv, put_items hv, List.getElem?_set_self hlt]), getV_step (by omega) h2]
        exact get_set_ne p q u x (known_item hv h2) hc h3
    · rcases o with ⟨h1, h2⟩ | ⟨u, h1, h2, h3, h4⟩
      · rw [h2, getV, getV, child_grown_ne' hv hs h1 (Ne.symm hst)]
        split
        · rfl
        · have := child_lt v t
          rw [grown_items hv, List.getElem?_append_left (by omega)]
      · rw [h4]; exact put_other hv hst h1

theorem unset_true {v z : JV} {p : List (List UInt8)} (h : getV v p = some z) (hp : p ≠ []) : (unsetV p v).2 = true := by
  cases p with
  | nil => exact absurd rfl hp
  | cons s p =>
    obtain ⟨y, hc, hy, _⟩ := getV_down h
    by_cases h0 : p = []
    · subst h0
      rw [unsetV, h]; simp only [if_true]; split <;> rfl
    · rw [unsetV_down h h0 hy]
theorem unset_get {v : JV} {p : List (List UInt8)} (h : (unsetV p v).2 = true) : p ≠ [] ∧ ∃ z, getV v p = some z := by
  cases p with
  | nil => cases h
  | cons s p =>
    refine ⟨by simp, ?_⟩
    cases hg : getV v (s :: p) with
    | none => rw [unsetV_none hg] at h; cases h
    | some z => exact ⟨z, rfl⟩
theorem cut6 {v : JV} {i : Nat} (h : knownP v) (hk : v.kind = 6) : v.cut i = .mk ⟨6, 0, [], v.names.take i ++ v.names.drop (i + 1)⟩ (v.items.take i ++ v.items.drop (i + 1)) := by
  obtain ⟨m1, m2⟩ := mem_known h hk
  have e1 : v.names.take v.mem = v.names := List.take_of_length_le (by omega)
  have e2 : v.items.take v.mem = v.items := List.take_of_length_le (by omega)
  rw [JV.cut, e1, e2]
theorem cut_get {α : Type} (l : List α) (i j : Nat) : (l.take i ++ l.drop (i + 1))[j]? = if j < i then l[j]? else l[j + 1]? := by
  by_cases hi : i ≤ l.length
  · rw [List.getElem?_append, List.length_take, Nat.min_eq_left hi]
    split
    · rename_i h; rw [List.getElem?_take, if_pos h]
    · rw [List.getElem?_drop]; congr 1; omega
  · have e1 : l.take i = l := List.take_of_length_le (by omega)
    have e2 : l.drop (i + 1) = [] := List.drop_of_length_le (by omega)
    rw [e1, e2, List.append_nil]
    split
    · rfl
    · rw [List.getElem?_eq_none (by omega), List.getElem?_eq_none (by omega)]
theorem cut_known {v : JV} {i : Nat} (h : knownP v) (hk : v.kind = 6) : knownP (v.cut i) := by
  rw [cut6 h hk, known_mk]
  refine ⟨fun _ => by have := known_len h hk; simp [this], fun a b hab ha e => ?_, fun j y hy => ?_⟩
  · have ha' := ha
    rw [cut_get, cut_get] at e
    simp only [List.length_append, List.length_take, List.length_drop] at ha
    have key : ∀ c d : Nat, d < c → c < v.names.length → v.names[c]? ≠ v.names[d]? := fun c d h1 h2 => ((knownP_iff v).1 h).2.1 c d h1 h2
    split at e
    · split at e
      · exact key a b hab (by omega) e
      · omega
    · split at e
      · exact key (a + 1) b (by omega) (by omega) e
      · exact key (a + 1) (b + 1) (by omega) (by omega) e
  · rw [cut_get] at hy
    split at hy
    · exact known_item h hy
    · exact known_item h hy
theorem cut_miss {v : JV} {s : List UInt8} (h : knownP v) (hk : v.kind = 6) (hc : ¬ v.child s < 0) : (v.cut (v.child s).toNat).child s < 0 := by
  have hm : s ∈ v.names := Classical.byContradiction fun q => by rw [child_no hk q] at hc; omega
  obtain ⟨i, hi1, hi2⟩ := List.getElem_of_mem hm
  have q : v.names[i]? = some s := by rw [List.getElem?_eq_getElem hi1, hi2]
  have e := child_at h hk q
  rw [e, Int.toNat_natCast, child_no (by rw [cut6 h hk]; rfl) ?_]
  · omega
  · rw [cut6 h hk]
    intro hm2
    obtain ⟨j, hj1, hj2⟩ := List.getElem_of_mem hm2
    have q2 : (v.names.take i ++ v.names.drop (i + 1))[j]? = some s := by rw [← hj2]; exact List.getElem?_eq_getElem hj1
    rw [cut_get] at q2
    split at q2
    · have := known_eq h q q2; omega
    · have := known_eq h q q2; omega
theorem cut_other {v : JV} {s t : List UInt8} {q : List (List UInt8)} (h : knownP v) (hk : v.kind = 6) (hc : ¬ v.child s < 0) (hne : s ≠ t) : getV (v.cut (v.child s).toNat) (t :: q) = getV v (t :: q) := by
  have hm : s ∈ v.names := Classical.byContradiction fun r => by rw [child_no hk r] at hc; omega
  obtain ⟨i, hi1, hi2⟩ := List.getElem_of_mem hm
  have q1 : v.names[i]? = some s := by rw [List.getElem?_eq_getElem hi1, hi2]
  have e := child_at h hk q1
  rw [e, Int.toNat_natCast]
  have kc := cut_known (i := i) h hk
  have ck : (v.cut i).kind = 6 := by rw [cut6 h hk]; rfl
  have cn : (v.cut i).names = v.names.take i ++ v.names.drop (i + 1) := by rw [cut6 h hk]; rfl
  have ci : (v.cut i).items = v.items.take i ++ v.items.drop (i + 1) := by rw [cut6 h hk]; rfl
  by_cases ht : t ∈ v.names
  · obtain ⟨j, hj1, hj2⟩ := List.getElem_of_mem ht
    have q2 : v.names[j]? = some t := by rw [List.getElem?_eq_getElem hj1, hj2]
    have hij : i ≠ j := fun r => by subst r; rw [q1] at q2; exact hne (Option.some.inj q2)
    have e2 := child_at h hk q2
    rcases Nat.lt_or_ge j i with hlt | hge
    · have q3 : (v.cut i).names[j]? = some t := by rw [cn, cut_get, if_pos hlt, q2]
      have e3 := child_at kc ck q3
      rw [getV, getV, e2, e3, if_neg (by omega), if_neg (by omega), Int.toNat_natCast, ci, cut_get, if_pos hlt]
    · have q3 : (v.cut i).names[j - 1]? = some t := by rw [cn, cut_get, if_neg (by omega), show j - 1 + 1 = j by omega, q2]
      have e3 := child_at kc ck q3
      rw [getV, getV, e2, e3, if_neg (by omega), if_neg (by omega), Int.toNat_natCast, Int.toNat_natCast, ci, cut_get, if_neg (by omega), show j - 1 + 1 = j by omega]
  · have hn : t ∉ (v.cut i).names := by
      rw [cn]; intro r
      rcases List.mem_append.1 r with r | r
      · exact ht (List.mem_of_mem_take r)
      · exact ht (List.mem_of_mem_drop r)
    have e1 := child_no hk ht
    have e2 := child_no ck hn
    rw [getV_none (v := v) (by omega), getV_none (v := v.cut i) (by omega)]

/-- Behind an Unset the path has nothing, or null. -/
theorem get_unset : ∀ (p : List (List UInt8)) (v : JV), knownP v → (unsetV p v).2 = true → getV (unsetV p v).1 p = none ∨ getV (unsetV p v).1 p = some JV.zero
  | [], _, _, h => by cases h
  | s :: p, v, hv, h => by
    obtain ⟨_, z, hz⟩ := unset_get h
    obtain ⟨y, hc, hy, hg⟩ := getV_down hz
    by_cases h0 : p = []
    · subst h0
      rcases getV_kind hz with hk | hk
      · rw [unsetV_obj hz hk]
        exact .inl (getV_none (cut_miss hv hk hc))
      · rw [unsetV_list hz hk.1]
        refine .inr ?_
        rw [getV_step (x := JV.zero) (by rw [child_put' hv]; omega) (by rw [child_put' hv, put_items hv, List.getElem?_set_self (get_lt hy)])]
        rfl
    · rw [unsetV_down hz h0 hy]
      rw [getV_step (x := (unsetV p y).1) (by rw [child_put' hv]; omega) (by rw [child_put' hv, put_items hv, List.getElem?_set_self (get_lt hy)])]
      exact get_unset p y (known_item hv hy) (unset_true hg h0)

/-- What does not clash with the path of an Unset has what it had. -/
theorem get_unset_ne : ∀ (p q : List (List UInt8)) (v : JV), knownP v → clashB p q = false → (unsetV p v).2 = true → getV (unsetV p v).1 q = getV v q
  | [], _, _, _, h, _ => absurd rfl (clash_ne' h).1
  | _ :: _, [], _, _, h, _ => absurd rfl (clash_ne' h).2
  | s :: p, t :: q, v, hv, hcl, h => by
    obtain ⟨_, z, hz⟩ := unset_get h
    obtain ⟨y, hc, hy, hg⟩ := getV_down hz
    by_cases hst : s = t
    · subst hst
      rw [clashB, if_pos rfl] at hcl
      have h0 := (clash_ne' hcl).1
      rw [unsetV_down hz h0 hy]
      rw [getV_step (x := (unsetV p y).1) (by rw [child_put' hv]; omega) (by rw [child_put' hv, put_items hv, List.getElem?_set_self (get_lt hy)]), getV_step (by omega) hy]
      exact get_unset_ne p q y (known_item hv hy) hcl (unset_true hg h0)
    · by_cases h0 : p = []
      · subst h0
        rcases getV_kind hz with hk | hk
        · rw [unsetV_obj hz hk]; exact cut_other hv hk hc hst
        · rw [unsetV_list hz hk.1]; exact put_other hv hst hc
      · rw [unsetV_down hz h0 hy]; exact put_other hv hst hc

/-- What is there may be laid there. -/
theorem set_there : ∀ (p : List (List UInt8)) (v x : JV), getV v p = some x → (setV p v x).2 = 0
  | [], _, _, _ => rfl
  | s :: p, v, x, h => by
    obtain ⟨y, hc, hy, hg⟩ := getV_down h
    have ih := set_there p y x hg
    have hk := val_of_child hc
    rw [setV, if_neg, if_neg, if_neg hc, hy]
    · simp only [ih, if_true]
    · rintro ⟨h6, q⟩
      rcases hk with hk | hk
      · exact h6 hk
      · omega
    · rintro ⟨h6, q⟩
      rcases hk with hk | hk
      · exact h6 hk
      · exact q ⟨hk.1, hk.2.1⟩

mutual
/-- A document of which nothing stands that its kind does not name. -/
def tidyV : JV → Prop
  | .mk h l => (h.kind = 6 ∨ h.kind = 5 → h.int = 0 ∧ h.text = []) ∧ (h.kind = 5 → h.names = []) ∧ tidyVs l
def tidyVs : List JV → Prop
  | [] => True
  | j :: l => tidyV j ∧ tidyVs l
end
theorem tidyVs_iff : ∀ l : List JV, tidyVs l ↔ ∀ (i : Nat) (y : JV), l[i]? = some y → tidyV y
  | [] => by simp [tidyVs]
  | j :: l => by
    rw [tidyVs, tidyVs_iff l]
    constructor
    · rintro ⟨h1, h2⟩ i y hy
      cases i with
      | zero => simp at hy; subst hy; exact h1
      | succ i => exact h2 i y (by simpa using hy)
    · intro h
      exact ⟨h 0 j rfl, fun i y hy => h (i + 1) y (by simpa using hy)⟩
theorem tidyV_iff (v : JV) : tidyV v ↔ (v.kind = 6 ∨ v.kind = 5 → v.int = 0 ∧ v.text = []) ∧ (v.kind = 5 → v.names = []) ∧ ∀ (i : Nat) (y : JV), v.items[i]? = some y → tidyV y := by
  cases v; rw [tidyV, tidyVs_iff]; rfl
theorem jv_eta (v : JV) : v = .mk ⟨v.kind, v.int, v.text, v.names⟩ v.items := by cases v; rfl

/-- Laying there what is there changes nothing. -/
theorem set_same : ∀ (p : List (List UInt8)) (v x : JV), knownP v → tidyV v → getV v p = some x → (setV p v x).1 = v
  | [], v, x, _, _, h => by cases h; rfl
  | s :: p, v, x, hv, hp, h => by
    obtain ⟨y, hc, hy, hg⟩ := getV_down h
    have hok := set_there (s :: p) v x h
    have ih := set_same p y x (known_item hv hy) (((tidyV_iff v).1 hp).2.2 _ y hy) hg
    rcases (setV_ok hok).2 with ⟨h1, _⟩ | ⟨u, _, h2, _, h4⟩
    · exact absurd h1 hc
    · rw [hy] at h2; cases h2
      rw [h4, ih]
      have hset : v.items.set (v.child s).toNat y = v.items := by
        apply List.ext_getElem?
        intro j
        rw [List.getElem?_set]
        split
        · rename_i e; subst e; rw [if_pos (get_lt hy), hy]
        · rfl
      obtain ⟨g1, g2, _⟩ := (tidyV_iff v).1 hp
      by_cases hk : v.kind = 6
      · obtain ⟨q1, q2⟩ := g1 (.inl hk)
        have e := jv_eta v
        rw [put6 hv hk, hset]
        rw [hk, q1, q2] at e
        exact e.symm
      · have hk5 : v.kind = 5 := by
          rcases val_of_child hc with r | r
          · exact absurd r hk
          · exact r.1
        obtain ⟨q1, q2⟩ := g1 (.inr hk5)
        have e := jv_eta v
        rw [put5 hk, hset]
        rw [q1, q2, g2 hk5] at e
        exact e.symm
end Go.Ab

