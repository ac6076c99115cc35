/- What is proved: contracts of functions of this translation, walked; their plain meaning. No condition beyond those that each theorem names. -/
import Derived.Test.YtjpaecoehajfdaaDoorOl5
set_option linter.all false
namespace Go.Ab
open Go Go.Proofs

theorem fresh_set {p : List (List UInt8)} (x : JV) (hp : p ≠ []) : setV p EJ x = (freshV p x, 0) := by
  cases p with
  | nil => exact absurd rfl hp
  | cons t r => exact set_EJ t r x
theorem clash_ne {p q : List (List UInt8)} (h : clashB p q = false) : p ≠ [] ∧ q ≠ [] := by
  cases p with
  | nil => simp [clashB] at h
  | cons s p =>
    cases q with
    | nil => simp [clashB] at h
    | cons t q => simp

/-- One goes down, the other is new. -/
theorem set_mixed {v x y u : JV} {s t : List UInt8} {p q : List (List UInt8)} (hv : knownP v) (hx : knownP x) (hy : knownP y) (hne : s ≠ t)
    (vs : valS v s) (vt : valS v t) (ct : v.child t < 0) (cs : ¬ v.child s < 0) (hu : v.items[(v.child s).toNat]? = some u)
    (e1 : (setV (t :: q) (v.put (v.child s).toNat (setV p u x).1) y).2 = 0) (e2 : (setV (s :: p) (v.grown t (freshV q y)) x).2 = 0) :
    (setV (t :: q) (v.put (v.child s).toNat (setV p u x).1) y).1 = (setV (s :: p) (v.grown t (freshV q y)) x).1 := by
  have ku := known_item hv hu
  have ka := set_known p u x ku hx
  have kf := known_fresh q hy
  have hlt := get_lt hu
  have c1 : (v.put (v.child s).toNat (setV p u x).1).child t = v.child t := child_put hv ka
  have hidx : ¬ v.kind = 6 → idx s ≠ idx t := fun hk e => by
    rcases vs with h | ⟨_, h2, _⟩
    · exact hk h
    · rcases vt with h | ⟨_, h4, _⟩
      · exact hk h
      · exact hne (idx_inj h2 h4 e)
  have c2 : (v.grown t (freshV q y)).child s = v.child s := child_grown_ne hv kf vt ct hne hidx
  obtain ⟨_, r1⟩ := setV_ok e1
  obtain ⟨_, r2⟩ := setV_ok e2
  rcases r1 with ⟨_, r1⟩ | ⟨w, r1, _⟩
  · rcases r2 with ⟨r2, _⟩ | ⟨w, _, r3, _, r4⟩
    · rw [c2] at r2; exact absurd r2 cs
    · rw [c2] at r3 r4
      rw [grown_items hv, List.getElem?_append_left hlt, hu] at r3
      cases r3
      rw [r1, r4]
      exact put_grown_comm hv ka kf ct hlt
  · rw [c1] at r1; exact absurd ct r1

theorem set_comm : ∀ (p q : List (List UInt8)) (v x y : JV), knownP v → knownP x → knownP y → clashB p q = false →
    (setV p v x).2 = 0 → (setV q (setV p v x).1 y).2 = 0 → (setV q v y).2 = 0 → (setV p (setV q v y).1 x).2 = 0 → Sim (setV q (setV p v x).1 y).1 (setV p (setV q v y).1 x).1
  | [], q, _, _, _, _, _, _, h, _, _, _, _ => absurd rfl (clash_ne h).1
  | s :: p, [], _, _, _, _, _, _, h, _, _, _, _ => absurd rfl (clash_ne h).2
  | s :: p, t :: q, v, x, y, hv, hx, hy, hc, e1, e2, e3, e4 => by
    obtain ⟨vs, o1⟩ := setV_ok e1
    obtain ⟨vt, o3⟩ := setV_ok e3
    have kfx := known_fresh p hx
    have kfy := known_fresh q hy
    by_cases hst : s = t
    · subst hst
      have hc' : clashB p q = false := by rw [clashB, if_pos rfl] at hc; exact hc
      obtain ⟨hp, hq⟩ := clash_ne hc'
      rcases o1 with ⟨h1, h2⟩ | ⟨u, h1, h2, h3, h4⟩
      · rcases o3 with ⟨_, h3⟩ | ⟨u, h3, _⟩
        case inr => exact absurd h1 h3
        rw [h2] at e2 ⊢
        rw [h3] at e4 ⊢
        obtain ⟨_, o2⟩ := setV_ok e2
        obtain ⟨_, o4⟩ := setV_ok e4
        have c1 := child_grown hv kfx vs h1
        have c2 := child_grown hv kfy vs h1
        rcases o2 with ⟨o2, _⟩ | ⟨a, _, a2, a3, a4⟩
        · rw [c1] at o2; omega
        rcases o4 with ⟨o4, _⟩ | ⟨b, _, b2, b3, b4⟩
        · rw [c2] at o4; omega
        rw [c1, Int.toNat_natCast] at a2 a4
        rw [c2, Int.toNat_natCast] at b2 b4
        rw [grown_items hv, List.getElem?_append_right (Nat.le_refl _), Nat.sub_self] at a2 b2
        cases a2; cases b2
        rw [a4, b4, put_grown hv h1 kfx, put_grown hv h1 kfy]
        have fx := fresh_set x hp
        have fy := fresh_set y hq
        have ih := set_comm p q EJ x y known_EJ hx hy hc' (by rw [fx]) (by rw [fx]; exact a3) (by rw [fy]) (by rw [fy]; exact b3)
        rw [fx, fy] at ih
        exact sim_grown hv h1 (set_known q _ y kfx hy) (set_known p _ x kfy hx) ih
      · rcases o3 with ⟨h5, _⟩ | ⟨w, _, h6, h7, h8⟩
        · exact absurd h5 h1
        rw [h2] at h6; cases h6
        rw [h4] at e2 ⊢
        rw [h8] at e4 ⊢
        obtain ⟨_, o2⟩ := setV_ok e2
        obtain ⟨_, o4⟩ := setV_ok e4
        have ku := known_item hv h2
        have ka := set_known p u x ku hx
        have kb := set_known q u y ku hy
        have hlt := get_lt h2
        have c1 : (v.put (v.child s).toNat (setV p u x).1).child s = v.child s := child_put hv ka
        have c2 : (v.put (v.child s).toNat (setV q u y).1).child s = v.child s := child_put hv kb
        rcases o2 with ⟨o2, _⟩ | ⟨a, _, a2, a3, a4⟩
        · rw [c1] at o2; exact absurd o2 h1
        rcases o4 with ⟨o4, _⟩ | ⟨b, _, b2, b3, b4⟩
        · rw [c2] at o4; exact absurd o4 h1
        rw [c1] at a2 a4
        rw [c2] at b2 b4
        rw [put_items hv, List.getElem?_set_self hlt] at a2 b2
        cases a2; cases b2
        rw [a4, b4, put_put hv ka, put_put hv kb]
        exact sim_put hv (set_known q _ y ka hy) (set_known p _ x kb hx) (set_comm p q u x y ku hx hy hc' h3 a3 h7 b3)
    · rcases o1 with ⟨h1, h2⟩ | ⟨u, h1, h2, h3, h4⟩
      · rcases o3 with ⟨h5, h6⟩ | ⟨w, h5, h6, h7, h8⟩
        · -- both are new
          rw [h2] at e2 ⊢
          rw [h6] at e4 ⊢
          by_cases hk : v.kind = 6
          · have c1 : (v.grown s (freshV p x)).child t < 0 := by rw [child_grown_ne hv kfx vs h1 (Ne.symm hst) (fun r => absurd hk r)]; exact h5
            have c2 : (v.grown t (freshV q y)).child s < 0 := by rw [child_grown_ne hv kfy vt h5 hst (fun r => absurd hk r)]; exact h1
            rcases (setV_ok e2).2 with ⟨_, a⟩ | ⟨_, a, _⟩
            · rcases (setV_ok e4).2 with ⟨_, b⟩ | ⟨_, b, _⟩
              · rw [a, b]
                exact grown_grown hv kfx kfy h1 h5 hk hst
              · exact absurd c2 b
            · exact absurd c1 a
          · obtain ⟨_, b1, b2⟩ := new_ix hk vs h1
            obtain ⟨_, d1, d2⟩ := new_ix hk vt h5
            exact absurd (idx_inj b1 d1 (b2.trans d2.symm)) hst
        · rw [h2] at e2 ⊢
          rw [h8] at e4 ⊢
          have := set_mixed hv hy hx (Ne.symm hst) vt vs h1 h5 h6 e4 e2
          rw [← this]
          exact sim_refl _ _ (Nat.lt_succ_self _) (set_known (s :: p) _ x (known_put hv (set_known q w y (known_item hv h6) hy)) hx)
      · rcases o3 with ⟨h5, h6⟩ | ⟨w, h5, h6, h7, h8⟩
        · rw [h4] at e2 ⊢
          rw [h6] at e4 ⊢
          have := set_mixed hv hx hy hst vs vt h5 h1 h2 e2 e4
          rw [this]
          exact sim_refl _ _ (Nat.lt_succ_self _) (set_known (s :: p) _ x (known_grown hv h5 kfy) hx)
        · rw [h4] at e2 ⊢
          rw [h8] at e4 ⊢
          have ku := known_item hv h2
          have kw := known_item hv h6
          have ka := set_known p u x ku hx
          have kb := set_known q w y kw hy
          have hij := child_ne hv vs vt hst h1
          have hij' : (v.child s).toNat ≠ (v.child t).toNat := by omega
          have c1 : (v.put (v.child s).toNat (setV p u x).1).child t = v.child t := child_put hv ka
          have c2 : (v.put (v.child t).toNat (setV q w y).1).child s = v.child s := child_put hv kb
          rcases (setV_ok e2).2 with ⟨a, _⟩ | ⟨a, _, a2, _, a4⟩
          · rw [c1] at a; exact absurd a h5
          rcases (setV_ok e4).2 with ⟨b, _⟩ | ⟨b, _, b2, _, b4⟩
          · rw [c2] at b; exact absurd b h1
          rw [c1] at a2 a4
          rw [c2] at b2 b4
          rw [put_items hv, List.getElem?_set_ne hij', h6] at a2
          rw [put_items hv, List.getElem?_set_ne (Ne.symm hij'), h2] at b2
          cases a2; cases b2
          rw [a4, b4, put_comm hv ka kb hij']
          exact sim_refl _ _ (Nat.lt_succ_self _) (known_put (known_put hv kb) ka)
end Go.Ab

