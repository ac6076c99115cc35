/- What is proved: contracts of functions of this translation, walked; their plain meaning. No condition beyond those that each theorem names. -/
import Derived.Test.YtdalodgajiodhaaGreatDoorId4
set_option linter.all false
namespace Go.Ac
open Go Go.Proofs
set_option maxRecDepth 10000
set_option maxHeartbeats 1000000
namespace Dd
open Classical in
noncomputable def putV (m : List JV) (v : JV) : List JV := if v ∈ m then m else mgS ltV m [v]
def invP (m : List JV) (v : JV) (at_ i : Nat) : Prop := at_ ≤ i ∧ (∀ j y, at_ ≤ j → j < i → m[j]? = some y → 0 < cmpF N0 y v) ∧ (at_ = 0 ∨ ∃ y, m[at_ - 1]? = some y ∧ cmpF N0 y v ≤ 0)
theorem inv_up {m : List JV} {v y : JV} {at_ i : Nat} (h : invP m v at_ i) (hy : m[i]? = some y) (hz : cmpF N0 y v ≤ 0) : invP m v (i + 1) (i + 1) :=
  ⟨Nat.le_refl _, fun j y h1 h2 => by omega, .inr ⟨y, by rw [Nat.add_sub_cancel]; exact hy, hz⟩⟩
theorem inv_stay {m : List JV} {v y : JV} {at_ i : Nat} (h : invP m v at_ i) (hy : m[i]? = some y) (hz : ¬ cmpF N0 y v ≤ 0) : invP m v at_ (i + 1) := by
  obtain ⟨h1, h2, h3⟩ := h
  refine ⟨by omega, fun j y' q1 q2 q3 => ?_, h3⟩
  by_cases e : j = i
  · subst e; rw [hy] at q3; cases q3; omega
  · exact h2 j y' q1 (by omega) q3
theorem put_split {m : List JV} {v : JV} {at_ : Nat} (hs : srtd ltV m) (h : invP m v at_ m.length) : mgS ltV m [v] = m.take at_ ++ v :: m.drop at_ := by
  obtain ⟨h1, h2, h3⟩ := h
  have hc := cmpF_cmp N0
  have hB : ∀ y ∈ m.drop at_, ltV v y = true := by
    intro y hy
    obtain ⟨j, hj⟩ := List.getElem?_of_mem hy
    rw [List.getElem?_drop] at hj
    have hj2 := (List.getElem?_eq_some_iff.1 hj).1
    have := h2 (at_ + j) y (by omega) hj2 hj
    have := hc.sym y v
    exact decide_eq_true (by omega)
  have hA : ∀ x ∈ m.take at_, ltV v x = false := by
    intro x hx
    obtain ⟨j, hj⟩ := List.getElem?_of_mem hx
    rw [List.getElem?_take] at hj
    split at hj
    case isFalse => cases hj
    rename_i hja
    rcases h3 with h3 | ⟨y, hy, hz⟩
    · omega
    obtain ⟨j1, j2⟩ := List.getElem?_eq_some_iff.1 hj
    obtain ⟨a1, a2⟩ := List.getElem?_eq_some_iff.1 hy
    have hxy : cmpF N0 x y ≤ 0 := by
      by_cases e : j = at_ - 1
      · subst e
        rw [hj] at hy; cases hy
        have := hc.sym x x; omega
      · have := List.pairwise_iff_getElem.1 hs j (at_ - 1) j1 a1 (by omega)
        rw [j2, a2] at this
        have := of_decide_eq_false this
        have := hc.sym y x
        omega
    have := hc.tr x y v hxy hz
    have := hc.sym x v
    exact decide_eq_false (by omega)
  have := mg_split (lt := ltV) (m.take at_) [v] (m.drop at_) [] (fun x hx y hy => by rw [List.mem_singleton] at hx; subst hx; exact hB y hy) (fun x hx => by cases hx)
  rw [List.take_append_drop, List.append_nil, mg_nil, mg_ahead _ _ hA, List.append_assoc] at this
  exact this
theorem call53 : callable Tryz.prog 53 = true := by kernel_rfl
theorem call23 : callable Tryz.prog 23 = true := by kernel_rfl
theorem call24 : callable Tryz.prog 24 = true := by kernel_rfl
section
variable (W : World)
theorem eq42 (x y : JV) (hx : cntV x ≤ 2 ^ 30) : MutC Tryz.prog W 42 [encV x, encV y] [] (.ret (bA (eqV x y)) []) :=
  mut_of_pure (by simp only [cloL, encV_clo, Bool.and_self]) (equal67 W _ x y (Nat.lt_succ_self _) (okV_cnt x hx))
theorem cmp38 (x y : JV) (hx : GV x) : MutC Tryz.prog W 38 [encV x, encV y] [] (.ret (iA (cmpF N0 x y)) []) :=
  mut_of_pure (by simp only [cloL, encV_clo, Bool.and_self]) (compare83 W N0 x y hx.size hx.cnt hx.2)
theorem loop53N (m : List JV) (v : JV) (hl : m.length ≤ 2 ^ 30) (hG : ∀ x ∈ m, GV x) (hne : ∀ y ∈ m, y ≠ v) : ∀ (q i at_ : Nat), m.length - i = q → i ≤ m.length → invP m v at_ i → ∃ at', LoopC Tryz.prog W [] (nslots Tryz.prog 53) (loopOf Tryz.prog 53 0) (S53 m v at_ i) (.exit 0) (E53 m v at') ∧ invP m v at' m.length := by
  have hlen := encVs_len m
  intro q
  induction q with
  | zero =>
    intro i at_ hq hi hI
    have e : i = m.length := by omega
    subst e
    obtain ⟨h, k⟩ := v
    exact ⟨at_, loop_last (by simp) (body_of_sbodyK mixedz (b53_3 W m h k m.length at_) Id_z2 [] [] Id_z1), hI⟩
  | succ q ih =>
    intro i at_ hq hi hI
    obtain ⟨x, hx⟩ := getOf (l := m) (i := i) (by omega)
    have hws : IntKind.i64.wrap ((i : Int) + 1) = ((i + 1 : Nat) : Int) := wrap_succ (by omega)
    have hget := encVs_get hx
    have hxm := List.mem_of_getElem? hx
    have h42 := eq42 W x v (hG x hxm).cnt
    rw [eqV_false (hne x hxm)] at h42
    have h38 := cmp38 W x v (hG x hxm)
    by_cases hz : cmpF N0 x v ≤ 0
    · obtain ⟨at', nx, hI'⟩ := ih (i + 1) (i + 1) (by omega) (by omega) (inv_up hI hx hz)
      have c1 := decide_eq_true hz
      generalize cmpF N0 x v = z at *
      obtain ⟨hx', lx⟩ := x
      obtain ⟨h, k⟩ := v
      exact ⟨at', loop_next (body_of_sbodyK mixedz (b53_1 W m h hx' k lx i at_ false z) (by clear nx ih hI hI' hG hne; exact Id_z2) [] [] (σ3 := S53 m (.mk h k) (i + 1) (i + 1)) (by clear nx ih hI hI' hG hne; exact Id_z1)) nx, hI'⟩
    · obtain ⟨at', nx, hI'⟩ := ih (i + 1) at_ (by omega) (by omega) (inv_stay hI hx hz)
      have c1 := decide_eq_false hz
      generalize cmpF N0 x v = z at *
      obtain ⟨hx', lx⟩ := x
      obtain ⟨h, k⟩ := v
      exact ⟨at', loop_next (body_of_sbodyK mixedz (b53_2 W m h hx' k lx i at_ false z) (by clear nx ih hI hI' hG hne; exact Id_z2) [] [] (σ3 := S53 m (.mk h k) at_ (i + 1)) (by clear nx ih hI hI' hG hne; exact Id_z1)) nx, hI'⟩
theorem loop53Y (m : List JV) (v : JV) (hl : m.length ≤ 2 ^ 30) (hG : ∀ x ∈ m, GV x) : ∀ (q i at_ : Nat), m.length - i = q → i ≤ m.length → v ∈ m.drop i → LoopC Tryz.prog W [] (nslots Tryz.prog 53) (loopOf Tryz.prog 53 0) (S53 m v at_ i) .ret ⟨[(4, .sl 5 (encVs m) [])], []⟩ := by
  have hlen := encVs_len m
  intro q
  induction q with
  | zero =>
    intro i at_ hq hi hm
    rw [List.drop_eq_nil_of_le (by omega)] at hm
    cases hm
  | succ q ih =>
    intro i at_ hq hi hm
    obtain ⟨x, hx⟩ := getOf (l := m) (i := i) (by omega)
    have hws : IntKind.i64.wrap ((i : Int) + 1) = ((i + 1 : Nat) : Int) := wrap_succ (by omega)
    have hget := encVs_get hx
    have hxm := List.mem_of_getElem? hx
    have h42 := eq42 W x v (hG x hxm).cnt
    by_cases e : x = v
    · subst e
      rw [eqV_true] at h42
      obtain ⟨hx', lx⟩ := x
      exact loop_last (by simp) (body_of_sbodyK mixedz (b53_0 W m hx' hx' lx lx i at_ true) (by clear ih hG hm; exact Id_z2) [] [] (by clear ih hG hm; exact Id_z1))
    · rw [eqV_false e] at h42
      have h38 := cmp38 W x v (hG x hxm)
      rw [drop_cons hx] at hm
      have hm' : v ∈ m.drop (i + 1) := by
        rcases List.mem_cons.1 hm with h1 | h1
        · exact absurd h1.symm e
        · exact h1
      by_cases hz : cmpF N0 x v ≤ 0
      · have nx := ih (i + 1) (i + 1) (by omega) (by omega) hm'
        have c1 := decide_eq_true hz
        generalize cmpF N0 x v = z at *
        obtain ⟨hx', lx⟩ := x
        obtain ⟨h, k⟩ := v
        exact loop_next (body_of_sbodyK mixedz (b53_1 W m h hx' k lx i at_ false z) (by clear nx ih hG hm hm'; exact Id_z2) [] [] (σ3 := S53 m (.mk h k) (i + 1) (i + 1)) (by clear nx ih hG hm hm'; exact Id_z1)) nx
      · have nx := ih (i + 1) at_ (by omega) (by omega) hm'
        have c1 := decide_eq_false hz
        generalize cmpF N0 x v = z at *
        obtain ⟨hx', lx⟩ := x
        obtain ⟨h, k⟩ := v
        exact loop_next (body_of_sbodyK mixedz (b53_2 W m h hx' k lx i at_ false z) (by clear nx ih hG hm hm'; exact Id_z2) [] [] (σ3 := S53 m (.mk h k) at_ (i + 1)) (by clear nx ih hG hm hm'; exact Id_z1)) nx
theorem put53 (m : List JV) (v : JV) (hl : m.length ≤ 2 ^ 30) (hG : ∀ x ∈ m, GV x) (hs : srtd ltV m) : Pure Tryz.prog W 53 [.sl 5 (encVs m) [], encV v] (.sl 5 (encVs (putV m v)) []) := by
  have hlc := hl
  have hlen := encVs_len m
  by_cases hm : v ∈ m
  · have hlp := loop53Y W m v (by omega) hG m.length 0 0 (by omega) (by omega) hm
    have e : putV m v = m := by unfold putV; exact if_pos hm
    rw [e]
    obtain ⟨h, k⟩ := v
    exact pure_of_mut (by simp only [AV.clo, encVs_clo, cloL, Bool.and_self]) (mut_of_sfun mixedz call53 rfl (q53_0 W m h k) (by clear hG hm hs; exact Id_z2))
  · obtain ⟨at', hlp, hI⟩ := loop53N W m v (by omega) hG (fun y hy e => hm (e ▸ hy)) m.length 0 0 (by omega) (by omega) ⟨Nat.le_refl _, fun j y h1 h2 => by omega, .inl rfl⟩
    have e : putV m v = m.take at' ++ v :: m.drop at' := by unfold putV; rw [if_neg hm, put_split hs hI]
    have hat := hI.1
    clear hI hG hm hs
    obtain ⟨h, k⟩ := v
    have hb := p53_0 W m (m.take at' ++ .mk h k :: m.drop at') h k at'
    have e1 : List.drop 0 (List.take ((at' : Int)).toNat (encVs m ++ [])) = encVs (m.take at') := by rw [List.drop_zero, List.append_nil, Int.toNat_natCast, encVs_map, encVs_map, List.map_take]
    have e2 : List.drop ((at' : Int)).toNat (List.take ((defLen (sL 5 (encVs m)) : Int)).toNat (encVs m ++ [])) = encVs (m.drop at') := by
      rw [List.append_nil, Int.toNat_natCast, Int.toNat_natCast, show defLen (sL 5 (encVs m)) = (encVs m).length from rfl, List.take_length, encVs_map, encVs_map, List.map_drop]
    have hdf : defLen (sL 5 (encVs m)) = (encVs m).length := rfl
    rw [e1, e2, hdf] at hb
    rw [e]
    have l1 := encVs_len (m.take at')
    have l2 := encVs_len (m.drop at')
    have l3 : (m.take at').length = at' := by rw [List.length_take]; omega
    have l4 := List.length_drop (i := at') (l := m)
    have gl1 : [eV h k].length = 1 := rfl
    have hset : List.take (0 + (encVs (m.take at')).length + [eV h k].length) (List.take (0 + (encVs (m.take at')).length) ([] ++ encVs (m.take at')) ++ [eV h k]) ++ encVs (m.drop at') = encVs (m.take at' ++ .mk h k :: m.drop at') := by
      rw [List.nil_append, Nat.zero_add, List.take_length, show (encVs (m.take at')).length + [eV h k].length = (encVs (m.take at') ++ [eV h k]).length by rw [List.length_append], List.take_length, encVs_app, List.append_assoc]; rfl
    have hgl : 0 + (encVs (m.take at')).length + [eV h k].length + (encVs (m.drop at')).length = (m.take at' ++ JV.mk h k :: m.drop at').length := by
      simp only [List.length_append, List.length_cons, List.length_nil]; omega
    have hgl3 : 0 + (encVs (m.take at')).length = ([] ++ encVs (m.take at')).length := by rw [List.nil_append, Nat.zero_add]
    have hgl4 : 0 + (encVs (m.take at')).length + [eV h k].length = (List.take (0 + (encVs (m.take at')).length) ([] ++ encVs (m.take at')) ++ [eV h k]).length := by
      rw [List.nil_append, Nat.zero_add, List.take_length, List.length_append]
    refine pure_frz1 (mut_of_sfun mixedz call53 rfl hb ?_) (encVs_len _).symm (encVs_clo _)
    clear hb
    simp only [Holds, cloHs, and_true] <;> and_intros <;> first | assumption | omega | exact trivial | exact .inr ⟨trivial, hgl3⟩ | exact .inr ⟨trivial, hgl4⟩ | exact Id_z1
end
end Dd
end Go.Ac

