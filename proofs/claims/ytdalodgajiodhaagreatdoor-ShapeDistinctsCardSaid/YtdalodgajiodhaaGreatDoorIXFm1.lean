/- What is proved: contracts of functions of this translation, walked; their plain meaning. No condition beyond those that each theorem names. -/
import Derived.Test.YtdalodgajiodhaaGreatDoorIXFb8
set_option linter.all false
namespace Go.Ac
open Go Go.Proofs
set_option maxRecDepth 10000
set_option maxHeartbeats 2000000
theorem Fm1_z1 {kp f ph σ σ'} (h : MatchK kp f ph σ σ' := by exact ⟨by rfl, (by simp only [S129, H124, E124, Rv, tOK, List.map_cons, List.map_nil, and_true] <;> exact zt), (by simp only [S129, H124, E124, Rv, hOK, List.map_cons, List.map_nil, and_true] <;> exact zh), (by simp only [S129, H124, E124, Rv, liveT, List.map_cons, List.map_nil, and_true] <;> exact zv), (by simp only [S129, H124, E124, Rv, liveH, List.map_cons, List.map_nil, and_true] <;> exact zv)⟩) : MatchK kp f ph σ σ' := h
theorem Fm1_z2 {cs} (h : Holds cs := by simp only [Holds, and_true] <;> and_intros <;> first | assumption | exact zd | exact Fm1_z1) : Holds cs := h
mutual
def tnV : JV → Prop
  | .mk h l => h.text.length ≤ 2 ^ 50 ∧ (∀ s ∈ h.names, s.length ≤ 2 ^ 50) ∧ tnVs l
def tnVs : List JV → Prop
  | [] => True
  | j :: l => tnV j ∧ tnVs l
end
theorem tnVs_mem : ∀ {l : List JV}, tnVs l → ∀ x ∈ l, tnV x
  | [], _, x, hx => by cases hx
  | j :: l, h, x, hx => by
    rcases List.mem_cons.1 hx with rfl | hx
    · exact h.1
    · exact tnVs_mem h.2 x hx
def szV (v : JV) : Nat := if v.kind = 6 then v.mem else v.items.length
section
variable (W : World)
theorem size158 (h : JH) (l : List JV) : Pure Tryz.prog W 94 [encV (.mk h l)] (iA (szV (.mk h l))) := by
  have hmm : (JV.mk h l).mem = if l.length < h.names.length then l.length else h.names.length := rfl
  by_cases k : h.kind = 6
  · have hd : decide (h.kind = 6) = true := decide_eq_true k
    by_cases e : h.names.length < l.length
    · have hm : szV (.mk h l) = (List.map AV.str h.names).length := by unfold szV; rw [if_pos (show (JV.mk h l).kind = 6 from k), List.length_map, hmm]; split <;> omega
      rw [hm]
      exact pure_of_mut rfl (mut_of_sfun mixedz call158 rfl (p158_0 W h l) Fm1_z2)
    · have hm : szV (.mk h l) = (encVs l).length := by unfold szV; rw [if_pos (show (JV.mk h l).kind = 6 from k), encVs_len, hmm]; split <;> omega
      rw [hm]
      exact pure_of_mut rfl (mut_of_sfun mixedz call158 rfl (p158_1 W h l) Fm1_z2)
  · have hd : decide (h.kind = 6) = false := decide_eq_false k
    have hm : szV (.mk h l) = (encVs l).length := by unfold szV; rw [if_neg (show ¬ (JV.mk h l).kind = 6 from k), encVs_len]; rfl
    rw [hm]
    exact pure_of_mut rfl (mut_of_sfun mixedz call158 rfl (p158_2 W h l) Fm1_z2)
variable (h : JH) (l : List JV) (h2 : JH) (l2 : List JV)
theorem loopO129 (f : JV → JV → Int) (hk : h.kind = 6) (ht : tnV (.mk h l)) (hl : cntV (.mk h l) ≤ 2 ^ 30) (hf : ∀ x ∈ l, ∀ y, Pure Tryz.prog W 38 [encV x, encV y] (iA (f x y))) : ∀ (k i : Nat), (JV.mk h l).mem - i = k → i ≤ (JV.mk h l).mem → i ≤ (JV.mk h2 l2).mem →
    (LoopC Tryz.prog W [] (nslots Tryz.prog 73) (loopOf Tryz.prog 73 0) (S129 h l h2 l2 (JV.mk h l).mem (JV.mk h2 l2).mem i) .ret (Rv 4 (cmpMs f ((JV.mk h l).mems.drop i) ((JV.mk h2 l2).mems.drop i)))) ∨
    (LoopC Tryz.prog W [] (nslots Tryz.prog 73) (loopOf Tryz.prog 73 0) (S129 h l h2 l2 (JV.mk h l).mem (JV.mk h2 l2).mem i) (.exit 0) (E124 (JV.mk h l).mem (JV.mk h2 l2).mem) ∧ cmpMs f ((JV.mk h l).mems.drop i) ((JV.mk h2 l2).mems.drop i) = cmpI (JV.mk h l).mem (JV.mk h2 l2).mem) := by
  have hcl := cntV_len (.mk h l)
  have a1 := JV.mem_names (.mk h l)
  have a2 := JV.mem_items (.mk h l)
  have a3 := JV.mem_names (.mk h2 l2)
  have a4 := JV.mem_items (.mk h2 l2)
  simp only [JV.names, JV.items, JV.hd] at hcl a1 a2 a3 a4
  have b1 := JV.mems_len (.mk h l)
  have b2 := JV.mems_len (.mk h2 l2)
  have hd : decide (h.kind = 6) = true := decide_eq_true hk
  intro k
  induction k with
  | zero =>
    intro i hk h1 h3
    have hi : i = (JV.mk h l).mem := by omega
    subst hi
    refine .inr ⟨loop_last (by simp) (body_of_sbodyM mixedz (b129_4 W h l h2 l2 _ _ _) Fm1_z2 [] [] Fm1_z1), ?_⟩
    rw [cmpMs_end f (by omega) (by omega) (by omega), b1, b2]
  | succ k ih =>
    intro i hk h1 h3
    by_cases hm : i < (JV.mk h2 l2).mem
    case neg =>
      refine .inr ⟨loop_last (by simp) (body_of_sbodyM mixedz (b129_3 W h l h2 l2 _ _ i) Fm1_z2 [] [] Fm1_z1), ?_⟩
      rw [cmpMs_end f (by omega) (by omega) (by omega), b1, b2]
    obtain ⟨x, hx⟩ := getOf (l := h.names) (i := i) (by omega)
    obtain ⟨y, hy⟩ := getOf (l := h2.names) (i := i) (by omega)
    obtain ⟨v, hv⟩ := getOf (l := l) (i := i) (by omega)
    obtain ⟨w, hw⟩ := getOf (l := l2) (i := i) (by omega)
    have hget : (List.map AV.str h.names)[((i : Int)).toNat]? = some (AV.str x) := by rw [Int.toNat_natCast]; exact strs_get hx
    have hget2 : (List.map AV.str h2.names)[((i : Int)).toNat]? = some (AV.str y) := by rw [Int.toNat_natCast]; exact strs_get hy
    have hget3 : (encVs l)[((i : Int)).toNat]? = some (encV v) := by rw [Int.toNat_natCast]; exact encVs_get hv
    have hget4 : (encVs l2)[((i : Int)).toNat]? = some (encV w) := by rw [Int.toNat_natCast]; exact encVs_get hw
    have hws : IntKind.i64.wrap ((i : Int) + 1) = ((i + 1 : Nat) : Int) := wrap_succ (by omega)
    have hc1 := mut_of_pure (by rfl) (texts128 W x y (by have := ht.2.1 x (List.mem_of_getElem? hx); omega))
    have hc2 := mut_of_pure (by simp only [cloL, encV_clo, Bool.and_self]) (hf v (List.mem_of_getElem? hv) w)
    rw [cmpMs_step f (mems_at (v := .mk h l) hx hv) (mems_at (v := .mk h2 l2) hy hw)]
    by_cases e1 : Lib.compareBytes x y = 0
    case neg =>
      rw [if_neg e1]
      have hb1 : (!decide (Lib.compareBytes x y = 0)) = true := by simp [e1]
      exact .inl (loop_last (by simp) (body_of_sbodyM mixedz (b129_0 W h l h2 l2 _ _ i x y _) Fm1_z2 [] [] Fm1_z1))
    rw [if_pos e1]
    have hb1 : (!decide (Lib.compareBytes x y = 0)) = false := by simp [e1]
    by_cases e : f v w = 0
    · rw [if_pos e]
      have hb2 : (!decide (f v w = 0)) = false := by simp [e]
      have hbd : BodyC Tryz.prog W [] (nslots Tryz.prog 73) (loopOf Tryz.prog 73 0) (S129 h l h2 l2 (JV.mk h l).mem (JV.mk h2 l2).mem i) .normal (S129 h l h2 l2 (JV.mk h l).mem (JV.mk h2 l2).mem (i + 1 : Nat)) := by
        obtain ⟨h3, l3⟩ := v
        obtain ⟨h4, l4⟩ := w
        exact body_of_sbodyK mixedz (b129_2 W h l h2 l2 _ _ i x y h3 l3 h4 l4 (Lib.compareBytes x y) (f (.mk h3 l3) (.mk h4 l4))) Fm1_z2 [] [] Fm1_z1
      rcases ih (i + 1) (by omega) (by omega) (by omega) with h | ⟨h, h'⟩
      · exact .inl (loop_next hbd h)
      · exact .inr ⟨loop_next hbd h, h'⟩
    · rw [if_neg e]
      have hb2 : (!decide (f v w = 0)) = true := by simp [e]
      obtain ⟨h3, l3⟩ := v
      obtain ⟨h4, l4⟩ := w
      exact .inl (loop_last (by simp) (body_of_sbodyM mixedz (b129_1 W h l h2 l2 _ _ i x y h3 l3 h4 l4 (Lib.compareBytes x y) (f (.mk h3 l3) (.mk h4 l4))) Fm1_z2 [] [] Fm1_z1))
theorem loopL129 (f : JV → JV → Int) (hk : h.kind ≠ 6) (hl : cntV (.mk h l) ≤ 2 ^ 30) (hf : ∀ x ∈ l, ∀ y, Pure Tryz.prog W 38 [encV x, encV y] (iA (f x y))) : ∀ (k i : Nat), l.length - i = k → i ≤ l.length → i ≤ l2.length →
    (LoopC Tryz.prog W [] (nslots Tryz.prog 73) (loopOf Tryz.prog 73 0) (S129 h l h2 l2 l.length l2.length i) .ret (Rv 4 (cmpLs f (l.drop i) (l2.drop i)))) ∨
    (LoopC Tryz.prog W [] (nslots Tryz.prog 73) (loopOf Tryz.prog 73 0) (S129 h l h2 l2 l.length l2.length i) (.exit 0) (E124 l.length l2.length) ∧ cmpLs f (l.drop i) (l2.drop i) = cmpI l.length l2.length) := by
  have hcl := cntV_len (.mk h l)
  simp only [JV.names, JV.items, JV.hd] at hcl
  have hd : decide (h.kind = 6) = false := decide_eq_false hk
  intro k
  induction k with
  | zero =>
    intro i hk h1 h3
    have hi : i = l.length := by omega
    subst hi
    refine .inr ⟨loop_last (by simp) (body_of_sbodyM mixedz (c129_3 W h l h2 l2 _ _ _) Fm1_z2 [] [] Fm1_z1), ?_⟩
    exact cmpLs_end f (by omega) (by omega) (by omega)
  | succ k ih =>
    intro i hk h1 h3
    by_cases hm : i < l2.length
    case neg =>
      refine .inr ⟨loop_last (by simp) (body_of_sbodyM mixedz (c129_2 W h l h2 l2 _ _ i) Fm1_z2 [] [] Fm1_z1), ?_⟩
      exact cmpLs_end f (by omega) (by omega) (by omega)
    obtain ⟨v, hv⟩ := getOf (l := l) (i := i) (by omega)
    obtain ⟨w, hw⟩ := getOf (l := l2) (i := i) (by omega)
    have hget3 : (encVs l)[((i : Int)).toNat]? = some (encV v) := by rw [Int.toNat_natCast]; exact encVs_get hv
    have hget4 : (encVs l2)[((i : Int)).toNat]? = some (encV w) := by rw [Int.toNat_natCast]; exact encVs_get hw
    have hws : IntKind.i64.wrap ((i : Int) + 1) = ((i + 1 : Nat) : Int) := wrap_succ (by omega)
    have hc2 := mut_of_pure (by simp only [cloL, encV_clo, Bool.and_self]) (hf v (List.mem_of_getElem? hv) w)
    rw [cmpLs_step f hv hw]
    by_cases e : f v w = 0
    · rw [if_pos e]
      have hb2 : (!decide (f v w = 0)) = false := by simp [e]
      have hbd : BodyC Tryz.prog W [] (nslots Tryz.prog 73) (loopOf Tryz.prog 73 0) (S129 h l h2 l2 l.length l2.length i) .normal (S129 h l h2 l2 l.length l2.length (i + 1 : Nat)) := by
        obtain ⟨h3, l3⟩ := v
        obtain ⟨h4, l4⟩ := w
        exact body_of_sbodyK mixedz (c129_1 W h l h2 l2 _ _ i h3 l3 h4 l4 (f (.mk h3 l3) (.mk h4 l4))) Fm1_z2 [] [] Fm1_z1
      rcases ih (i + 1) (by omega) (by omega) (by omega) with h | ⟨h, h'⟩
      · exact .inl (loop_next hbd h)
      · exact .inr ⟨loop_next hbd h, h'⟩
    · rw [if_neg e]
      have hb2 : (!decide (f v w = 0)) = true := by simp [e]
      obtain ⟨h3, l3⟩ := v
      obtain ⟨h4, l4⟩ := w
      exact .inl (loop_last (by simp) (body_of_sbodyM mixedz (c129_0 W h l h2 l2 _ _ i h3 l3 h4 l4 (f (.mk h3 l3) (.mk h4 l4))) Fm1_z2 [] [] Fm1_z1))
theorem lists129 (f : JV → JV → Int) (hk : h.kind = 6 ∨ h.kind = 5) (hk2 : h2.kind = h.kind) (ht : tnV (.mk h l)) (hl : cntV (.mk h l) ≤ 2 ^ 30) (hf : ∀ x ∈ l, ∀ y, Pure Tryz.prog W 38 [encV x, encV y] (iA (f x y))) :
    Pure Tryz.prog W 73 [encV (.mk h l), encV (.mk h2 l2)] (iA (if h.kind = 6 then cmpMs f (JV.mk h l).mems (JV.mk h2 l2).mems else cmpLs f l l2)) := by
  have hc1 := mut_of_pure (by rfl) (size158 W h l)
  have hc2 := mut_of_pure (by rfl) (size158 W h2 l2)
  by_cases k : h.kind = 6
  · rw [if_pos k]
    have e1 : szV (.mk h l) = (JV.mk h l).mem := by unfold szV; rw [if_pos (show (JV.mk h l).kind = 6 from k)]
    have e2 : szV (.mk h2 l2) = (JV.mk h2 l2).mem := by unfold szV; rw [if_pos (show (JV.mk h2 l2).kind = 6 from hk2.trans k)]
    rw [e1] at hc1
    rw [e2] at hc2
    rcases loopO129 W h l h2 l2 f k ht hl hf _ 0 rfl (Nat.zero_le _) (Nat.zero_le _) with hlp | ⟨hlp, h3⟩
    · exact pure_of_mut rfl (mut_of_sfun mixedz call129 rfl (p129_0 W h l h2 l2 _ _ _) Fm1_z2)
    · have hc := mut_of_pure (by rfl) (ints126 W (JV.mk h l).mem (JV.mk h2 l2).mem)
      rw [show cmpMs f (JV.mk h l).mems (JV.mk h2 l2).mems = _ from h3]
      exact pure_of_mut rfl (mut_of_sfun mixedz call129 rfl (q129_0 W h l h2 l2 _ _ _) Fm1_z2)
  · rw [if_neg k]
    have e1 : szV (.mk h l) = l.length := by unfold szV; rw [if_neg (show ¬ (JV.mk h l).kind = 6 from k)]; rfl
    have e2 : szV (.mk h2 l2) = l2.length := by unfold szV; rw [if_neg (show ¬ (JV.mk h2 l2).kind = 6 from fun e => k (hk2.symm.trans e))]; rfl
    rw [e1] at hc1
    rw [e2] at hc2
    rcases loopL129 W h l h2 l2 f k hl hf _ 0 rfl (Nat.zero_le _) (Nat.zero_le _) with hlp | ⟨hlp, h3⟩
    · exact pure_of_mut rfl (mut_of_sfun mixedz call129 rfl (p129_0 W h l h2 l2 _ _ _) Fm1_z2)
    · have hc := mut_of_pure (by rfl) (ints126 W l.length l2.length)
      rw [show cmpLs f l l2 = _ from h3]
      exact pure_of_mut rfl (mut_of_sfun mixedz call129 rfl (q129_0 W h l h2 l2 _ _ _) Fm1_z2)
end
theorem rank_kind {a b : Int} (h : cmpI (rankV a) (rankV b) = 0) (ha : a = 5 ∨ a = 6) : b = a := by
  have e : rankV a = rankV b := by unfold cmpI at h; repeat' split at h <;> omega
  unfold rankV at e
  rcases ha with rfl | rfl <;> (repeat' split at e) <;> omega
theorem compare83 (W : World) : ∀ (n : Nat) (a b : JV), sizeV a < n → cntV a ≤ 2 ^ 30 → tnV a → Pure Tryz.prog W 38 [encV a, encV b] (iA (cmpF n a b))
  | 0, a, b, h, _, _ => by omega
  | n + 1, .mk h l, .mk h2 l2, hn, hcn, ht => by
    have hf : ∀ x ∈ l, ∀ y, Pure Tryz.prog W 38 [encV x, encV y] (iA (cmpF n x y)) := fun x hx y => compare83 W n x y (by
      obtain ⟨i, hi⟩ := List.getElem?_of_mem hx
      have := sizeV_item (v := .mk h l) hi; omega) (by
      obtain ⟨i, hi⟩ := List.getElem?_of_mem hx
      have := cntV_item (v := .mk h l) hi; omega) (tnVs_mem ht.2.2 x hx)
    have hc1 := mut_of_pure (by rfl) (rank127 W h l)
    have hc2 := mut_of_pure (by rfl) (rank127 W h2 l2)
    have hc3 := mut_of_pure (by rfl) (ints126 W (rankV h.kind) (rankV h2.kind))
    rw [cmpF_mk]
    by_cases e0 : cmpI (rankV h.kind) (rankV h2.kind) = 0
    case neg =>
      rw [if_neg e0]
      have hb1 : (!decide (cmpI (rankV h.kind) (rankV h2.kind) = 0)) = true := by simp [e0]
      exact pure_of_mut rfl (mut_of_sfun mixedz call83 rfl (p83_0 W h l h2 l2 _) Fm1_z2)
    rw [if_pos e0]
    have hb1 : (!decide (cmpI (rankV h.kind) (rankV h2.kind) = 0)) = false := by simp [e0]
    by_cases k3 : h.kind = 3
    · rw [if_pos k3]
      have hc := mut_of_pure (by rfl) (ints126 W h.int h2.int)
      exact pure_of_mut rfl (mut_of_sfun mixedz call83 rfl (p83_1 W h l h2 l2 _ _) Fm1_z2)
    rw [if_neg k3]
    by_cases k4 : h.kind = 4
    · rw [if_pos k4]
      have hc := mut_of_pure (by rfl) (texts128 W h.text h2.text (by have := ht.1; omega))
      exact pure_of_mut rfl (mut_of_sfun mixedz call83 rfl (p83_2 W h l h2 l2 _ _) Fm1_z2)
    rw [if_neg k4]
    by_cases k5 : h.kind = 5
    · rw [if_pos k5]
      have hc := mut_of_pure (by simp only [cloL, encV_clo, Bool.and_self]) (lists129 W h l h2 l2 (cmpF n) (.inr k5) (rank_kind e0 (.inl k5)) ht hcn hf)
      rw [if_neg (by omega)] at hc
      exact pure_of_mut rfl (mut_of_sfun mixedz call83 rfl (p83_3 W h l h2 l2 _ _) Fm1_z2)
    rw [if_neg k5]
    by_cases k6 : h.kind = 6
    · rw [if_pos k6]
      have hc := mut_of_pure (by simp only [cloL, encV_clo, Bool.and_self]) (lists129 W h l h2 l2 (cmpF n) (.inl k6) (rank_kind e0 (.inr k6)) ht hcn hf)
      rw [if_pos k6] at hc
      exact pure_of_mut rfl (mut_of_sfun mixedz call83 rfl (p83_4 W h l h2 l2 _ _) Fm1_z2)
    rw [if_neg k6]
    exact pure_of_mut rfl (mut_of_sfun mixedz call83 rfl (p83_5 W h l h2 l2 _) Fm1_z2)
end Go.Ac

