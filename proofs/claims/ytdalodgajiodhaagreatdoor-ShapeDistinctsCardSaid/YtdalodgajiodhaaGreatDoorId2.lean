/- What is proved: contracts of functions of this translation, walked; their plain meaning. No condition beyond those that each theorem names. -/
import Derived.Test.YtdalodgajiodhaaGreatDoorId1
set_option linter.all false
namespace Go.Ac
open Go Go.Proofs
set_option maxRecDepth 10000
set_option maxHeartbeats 1000000
namespace Dd
def GV (v : JV) : Prop := cntV v ≤ 2 ^ 30 ∧ tnV v
def N0 : Nat := 2 ^ 30 + 1
theorem GV.cnt {v : JV} (h : GV v) : cntV v ≤ 2 ^ 30 := h.1
theorem GV.size {v : JV} (h : GV v) : sizeV v < N0 := by have := size_cnt v; have := h.1; unfold N0; omega
theorem GV.ok {v : JV} (h : GV v) : okV v := okV_cnt v h.1
theorem call48 : callable Tryz.prog 48 = true := by kernel_rfl
theorem call49 : callable Tryz.prog 49 = true := by kernel_rfl
theorem call81 : callable Tryz.prog 81 = true := by kernel_rfl
theorem call51 : callable Tryz.prog 51 = true := by kernel_rfl
theorem call166 : callable Tryz.prog 166 = true := by kernel_rfl
theorem call167 : callable Tryz.prog 167 = true := by kernel_rfl
theorem call168 : callable Tryz.prog 168 = true := by kernel_rfl
section
variable (W : World)
theorem loop52 (l : List JV) (hl : cntVs l ≤ 2 ^ 30) : ∀ (k i : Nat), l.length - i = k → i ≤ l.length → LoopC Tryz.prog W [] (nslots Tryz.prog 52) (loopOf Tryz.prog 52 0) (S52 l (openV (l.take i)) i) (.exit 0) (E52 (openV l)) := by
  have hlen := encVs_len l
  have hlc := len_cnt l
  intro k
  induction k with
  | zero =>
    intro i hk hi
    have e : i = l.length := by omega
    subst e
    rw [List.take_length]
    exact loop_last (by simp) (body_of_sbodyK mixedz (b52_3 W l (openV l) l.length) Id_z2 [] [] Id_z1)
  | succ k ih =>
    intro i hk hi
    obtain ⟨x, hx⟩ := getOf (l := l) (i := i) (by omega)
    have hws : IntKind.i64.wrap ((i : Int) + 1) = ((i + 1 : Nat) : Int) := wrap_succ (by omega)
    have hget := encVs_get hx
    have nx := ih (i + 1) (by omega) (by omega)
    have hb1 := openV_bd l i
    have hb2 := openV_bd l (i + 1)
    rw [openV_snoc hx] at nx hb2
    rw [List.length_append] at hb2
    generalize openV (l.take i) = out at *
    have hlo := encVs_len out
    obtain ⟨hx', lx⟩ := x
    have hlx := encVs_len lx
    have one : ¬ (hx'.kind = 5 ∧ lx ≠ []) → opV (.mk hx' lx) = [.mk hx' lx] := fun h => by unfold opV; exact if_neg h
    by_cases h5 : hx'.kind = 5
    · by_cases h0 : lx = []
      · rw [one (fun h => h.2 h0)] at nx hb2
        have hset : List.take out.length (encVs out) ++ [encV (.mk hx' lx)] = encVs (out ++ [.mk hx' lx]) := encVs_push out [.mk hx' lx]
        have hgl : out.length + [encV (.mk hx' lx)].length = (out ++ [JV.mk hx' lx]).length := by rw [List.length_append]; rfl
        have g0 : lx.length = 0 := by rw [h0]; rfl
        have gl1 : [eV hx' lx].length = 1 := rfl
        have gl2 : [JV.mk hx' lx].length = 1 := rfl
        have c1 := decide_eq_true h5
        exact loop_next (body_of_sbodyK mixedz (b52_1 W l out hx' lx i) (by clear nx ih; exact Id_z2) [(100000, 100002)] [] (σ3 := S52 l (out ++ [.mk hx' lx]) (i + 1)) (by clear nx ih; exact Id_z1)) nx
      · have e : opV (.mk hx' lx) = lx := by unfold opV; exact if_pos ⟨h5, h0⟩
        rw [e] at nx hb2
        have hset : List.take out.length (encVs out) ++ encVs lx = encVs (out ++ lx) := encVs_push out lx
        have hgl : out.length + (encVs lx).length = (out ++ lx).length := by rw [List.length_append, hlx]
        have g0 : 0 < lx.length := List.length_pos_iff.2 h0
        have c1 := decide_eq_true h5
        exact loop_next (body_of_sbodyK mixedz (b52_0 W l out hx' lx i) (by clear nx ih; exact Id_z2) [(100000, 100001)] [] (σ3 := S52 l (out ++ lx) (i + 1)) (by clear nx ih; exact Id_z1)) nx
    · rw [one (fun h => h5 h.1)] at nx hb2
      have hset : List.take out.length (encVs out) ++ [encV (.mk hx' lx)] = encVs (out ++ [.mk hx' lx]) := encVs_push out [.mk hx' lx]
      have hgl : out.length + [encV (.mk hx' lx)].length = (out ++ [JV.mk hx' lx]).length := by rw [List.length_append]; rfl
      have gl1 : [eV hx' lx].length = 1 := rfl
      have gl2 : [JV.mk hx' lx].length = 1 := rfl
      have c1 := decide_eq_false h5
      exact loop_next (body_of_sbodyK mixedz (b52_2 W l out hx' lx i) (by clear nx ih; exact Id_z2) [(100000, 100002)] [] (σ3 := S52 l (out ++ [.mk hx' lx]) (i + 1)) (by clear nx ih; exact Id_z1)) nx
theorem cand52 (p : List (List UInt8)) (v : JV) (hv : cntV v ≤ 2 ^ 30) : Pure Tryz.prog W 52 [encV v, .sl 1 (p.map AV.str) []] (.sl 5 (encVs (candV p v)) []) := by
  have hc : cntVs (allV v p) ≤ 2 ^ 30 := by have := allV_cnt p v; omega
  have h85 : MutC Tryz.prog W 85 [encV v, .sl 1 (p.map AV.str) []] [] (.ret (.sl 5 (encVs (allV v p)) []) []) := mut_of_pure (by simp only [cloL, encV_clo, Bool.and_self]; rfl) (all30 W _ v p (Nat.lt_succ_self _) hv)
  have hlp := loop52 W (allV v p) hc (allV v p).length 0 (by omega) (by omega)
  unfold candV
  generalize allV v p = l at *
  obtain ⟨hx, lx⟩ := v
  exact pure_frz1 (mut_of_sfun mixedz call52 rfl (p52_0 W l (openV l) ⟨0, 0, [], p⟩ hx lx) Id_z2) (encVs_len _).symm (encVs_clo _)
theorem fn49 (y x : JV) (hy : cntV y ≤ 2 ^ 30) : Pure Tryz.prog W 49 [encV y, .ip (encV x) 0] (bA (eqV y x)) := by
  have h50 : MutC Tryz.prog W 50 [encV y, encV x] [] (.ret (bA (eqV y x)) []) := mut_of_pure (by simp only [cloL, encV_clo, Bool.and_self]) (equal100 W _ y x (Nat.lt_succ_self _) hy)
  generalize eqV y x = b at *
  obtain ⟨hx, lx⟩ := y
  obtain ⟨h, k⟩ := x
  exact pure_of_mut rfl (mut_of_sfun mixedz call49 rfl (p49_0 W h hx k lx b) Id_z2)
theorem loop81N (l : List JV) (x : JV) (hl : cntVs l ≤ 2 ^ 30) (hne : ∀ y ∈ l, y ≠ x) : ∀ (k i : Nat), l.length - i = k → i ≤ l.length → LoopC Tryz.prog W [] (nslots Tryz.prog 81) (loopOf Tryz.prog 81 0) (S81 l x i) (.exit 0) E81 := by
  have hlen := encVs_len l
  have hlc := len_cnt l
  obtain ⟨h, kx⟩ := x
  intro k
  induction k with
  | zero =>
    intro i hk hi
    exact loop_last (by simp) (body_of_sbodyK mixedz (b81_2 W l h kx i) Id_z2 [] [] Id_z1)
  | succ k ih =>
    intro i hk hi
    obtain ⟨y, hy⟩ := getOf (l := l) (i := i) (by omega)
    have hws : IntKind.i64.wrap ((i : Int) + 1) = ((i + 1 : Nat) : Int) := wrap_succ (by omega)
    have hget := encVs_get hy
    have nx := ih (i + 1) (by omega) (by omega)
    have h49 := fn49 W y (.mk h kx) (by have := cntVs_get hy; omega)
    rw [eqV_false (hne y (List.mem_of_getElem? hy))] at h49
    have hc1 := mut_of_pure (by simp only [cloL, encV_clo, AV.clo, Bool.and_self]) h49
    obtain ⟨hx, lx⟩ := y
    exact loop_next (body_of_sbodyK mixedz (b81_1 W l h hx kx lx i false) (by clear nx ih; exact Id_z2) [] [] (σ3 := S81 l (.mk h kx) (i + 1)) (by clear nx ih; exact Id_z1)) nx
theorem loop81Y (l : List JV) (x : JV) (hl : cntVs l ≤ 2 ^ 30) : ∀ (k i : Nat), l.length - i = k → i ≤ l.length → x ∈ l.drop i → ∃ n : Nat, LoopC Tryz.prog W [] (nslots Tryz.prog 81) (loopOf Tryz.prog 81 0) (S81 l x i) .ret ⟨[(4, iA n)], []⟩ := by
  have hlen := encVs_len l
  have hlc := len_cnt l
  obtain ⟨h, kx⟩ := x
  intro k
  induction k with
  | zero =>
    intro i hk hi hm
    rw [List.drop_eq_nil_of_le (by omega)] at hm
    cases hm
  | succ k ih =>
    intro i hk hi hm
    obtain ⟨y, hy⟩ := getOf (l := l) (i := i) (by omega)
    have hws : IntKind.i64.wrap ((i : Int) + 1) = ((i + 1 : Nat) : Int) := wrap_succ (by omega)
    have hget := encVs_get hy
    have h49 := fn49 W y (.mk h kx) (by have := cntVs_get hy; omega)
    have hd : l.drop i = y :: l.drop (i + 1) := by
      obtain ⟨hi', e⟩ := List.getElem?_eq_some_iff.1 hy
      rw [List.drop_eq_getElem_cons hi', e]
    by_cases e : y = .mk h kx
    · subst e
      rw [eqV_true] at h49
      have hc1 := mut_of_pure (by simp only [cloL, encV_clo, AV.clo, Bool.and_self]) h49
      exact ⟨i, loop_last (by simp) (body_of_sbodyK mixedz (b81_0 W l h h kx kx i true) Id_z2 [] [] Id_z1)⟩
    · rw [eqV_false e] at h49
      have hc1 := mut_of_pure (by simp only [cloL, encV_clo, AV.clo, Bool.and_self]) h49
      rw [hd] at hm
      obtain ⟨n, nx⟩ := ih (i + 1) (by omega) (by omega) (by
        rcases List.mem_cons.1 hm with h1 | h1
        · exact absurd h1.symm e
        · exact h1)
      obtain ⟨hx, lx⟩ := y
      exact ⟨n, loop_next (body_of_sbodyK mixedz (b81_1 W l h hx kx lx i false) (by clear nx ih; exact Id_z2) [] [] (σ3 := S81 l (.mk h kx) (i + 1)) (by clear nx ih; exact Id_z1)) nx⟩
open Classical in
theorem contains48 (l : List JV) (x : JV) (hl : cntVs l ≤ 2 ^ 30) : Pure Tryz.prog W 48 [.sl 5 (encVs l) [], .fn (.func 49) [] [.ip (encV x) 0]] (bA (decide (x ∈ l))) := by
  have hcl : cloL [.sl 5 (encVs l) [], .fn (.func 49) [] [.ip (encV x) 0]] = true := by simp only [cloL, encV_clo, encVs_clo, AV.clo, Bool.and_self]
  by_cases hm : x ∈ l
  · obtain ⟨n, hlp⟩ := loop81Y W l x hl l.length 0 (by omega) (by omega) hm
    obtain ⟨h, k⟩ := x
    have h81 := mut_of_sfun mixedz call81 rfl (q81_0 W l h k n) Id_z2
    have e : decide ((0 : Int) ≤ (n : Int)) = true := decide_eq_true (by omega)
    have h48 := pure_of_mut rfl (mut_of_sfun mixedz call48 rfl (p48_0 W l h k n) Id_z2)
    rw [e] at h48
    rw [decide_eq_true hm]
    exact h48
  · have hlp := loop81N W l x hl (fun y hy e => hm (e ▸ hy)) l.length 0 (by omega) (by omega)
    obtain ⟨h, k⟩ := x
    have h81 := mut_of_sfun mixedz call81 rfl (p81_0 W l h k) Id_z2
    have h48 := pure_of_mut rfl (mut_of_sfun mixedz call48 rfl (p48_0 W l h k (-1)) Id_z2)
    rw [decide_eq_false hm]
    exact h48
end
end Dd
end Go.Ac

