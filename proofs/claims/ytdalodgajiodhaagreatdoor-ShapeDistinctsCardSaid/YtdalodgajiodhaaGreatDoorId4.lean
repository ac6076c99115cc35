/- What is proved: contracts of functions of this translation, walked; their plain meaning. No condition beyond those that each theorem names. -/
import Derived.Test.YtdalodgajiodhaaGreatDoorId3
set_option linter.all false
namespace Go.Ac
open Go Go.Proofs
set_option maxRecDepth 10000
set_option maxHeartbeats 1000000
namespace Dd
theorem mut_rest {P : Program} {W : World} {f : FuncId} {a : AV} {n : Nat} {els : List AV} {o : OutC} (rest : List AV) (h : MutC P W f [a, .sl n els []] [] o) : MutC P W f [a, .sl n els rest] [] o := by
  intro β I w vs hw hlB hi hR
  cases hR with
  | cons ha hb =>
    cases hb with
    | cons hb hc =>
      cases hc
      exact h β I w _ hw hlB hi (.cons ha (.cons (R_rest hb) (.nil _)))
open Classical in
noncomputable def addU (out : List JV) (x : JV) : List JV := if x ∈ out then out else out ++ [x]
noncomputable def uniqV (out c : List JV) : List JV := c.foldl addU out
theorem addU_cnt (out : List JV) (x : JV) : cntVs (addU out x) ≤ cntVs out + cntV x := by
  unfold addU; split
  · omega
  · rw [cntVs_app]; simp [cntVs]
def dcnt : List Doc → Nat
  | [] => 0
  | d :: D => cntV d.v + dcnt D
theorem dcnt_mem : ∀ {D : List Doc} {d : Doc}, d ∈ D → cntV d.v ≤ dcnt D
  | x :: D, d, h => by
    rcases List.mem_cons.1 h with rfl | h
    · simp only [dcnt]; omega
    · have := dcnt_mem h; simp only [dcnt]; omega
theorem dcnt_len : ∀ D : List Doc, D.length ≤ dcnt D
  | [] => by simp
  | x :: D => by have := dcnt_len D; have := cnt_pos x.v; simp only [List.length_cons, dcnt]; omega
def allC (p : List (List UInt8)) (D : List Doc) : List JV := D.flatMap fun d => candV p d.v
theorem drop_cons {α : Type} {l : List α} {i : Nat} {x : α} (h : l[i]? = some x) : l.drop i = x :: l.drop (i + 1) := by
  obtain ⟨hi', e⟩ := List.getElem?_eq_some_iff.1 h
  rw [List.drop_eq_getElem_cons hi', e]
theorem uniq_cnt : ∀ (c out : List JV), cntVs (uniqV out c) ≤ cntVs out + cntVs c
  | [], out => by simp [uniqV]
  | x :: c, out => by
    have := uniq_cnt c (addU out x); have := addU_cnt out x
    simp only [uniqV, List.foldl_cons, cntVs] at *; omega
theorem docs_geti {D : List Doc} {i : Nat} {x : Doc} (h : D[i]? = some x) : (docsA D)[i]? = some (docA x) := by unfold docsA; rw [List.getElem?_map, h]; rfl
theorem call22 : callable Tryz.prog 22 = true := by kernel_rfl
section
variable (W : World)
open Classical in
theorem cont48M (out : List JV) (x : JV) (ho : cntVs out ≤ 2 ^ 30) : MutC Tryz.prog W 48 [.gs 100000 0 out.length, .fn (.func 49) [] [.gp 100001 0]] [(100000, .arr 25 5 (encVs out) .own), (100001, .box (encV x) .own)] (.ret (bA (decide (x ∈ out))) [(100000, .arr 25 5 (encVs out) .own), (100001, .box (encV x) .own)]) := by
  have hlo := encVs_len out
  have e : clL [(100000, .arr 25 5 (encVs out) .own), (100001, .box (encV x) .own)] [.gs 100000 0 out.length, .fn (.func 49) [] [.gp 100001 0]] = [.sl 5 (encVs out) [], .fn (.func 49) [] [.ip (encV x) 0]] := by
    have e1 : List.take out.length (encVs out) = encVs out := by rw [← hlo, List.take_length]
    simp [clL, clA, lk, hlo, e1]
  refine mut_of_pureFlat ?_ rfl (by rw [e]; simp only [cloL, encV_clo, encVs_clo, AV.clo, Bool.and_self]) rfl (by rw [e]; exact contains48 W out x ho)
  intro p hp
  simp only [List.mem_cons, List.not_mem_nil, or_false] at hp
  rcases hp with rfl | rfl
  · exact ⟨by simp [hg], encVs_clo _⟩
  · exact ⟨by simp [hg], encV_clo _⟩
open Classical in
theorem loop22i (D : List Doc) (p : List (List UInt8)) (c : List JV) (i : Nat) (hc : cntVs c ≤ 2 ^ 30) : ∀ (q k : Nat) (out : List JV), c.length - k = q → k ≤ c.length → cntVs out + cntVs (c.drop k) ≤ 2 ^ 30 → LoopC Tryz.prog W [] (nslots Tryz.prog 22) (loopOf Tryz.prog 22 1) (T22 p D c out i k) (.exit 2) (S22 p D (uniqV out (c.drop k)) i) := by
  have hlen := encVs_len c
  have hlc := len_cnt c
  intro q
  induction q with
  | zero =>
    intro k out hq hk ho
    rw [List.drop_eq_nil_of_le (by omega)]
    show LoopC _ _ _ _ _ _ _ (S22 p D out i)
    exact loop_last (by simp) (body_of_sbodyK mixedz (b22i_2 W D p out c i k) Id_z2 [] [] Id_z1)
  | succ q ih =>
    intro k out hq hk ho
    obtain ⟨x, hx⟩ := getOf (l := c) (i := k) (by omega)
    have hws : IntKind.i64.wrap ((k : Int) + 1) = ((k + 1 : Nat) : Int) := wrap_succ (by omega)
    have hget := encVs_get hx
    rw [drop_cons hx] at ho ⊢
    simp only [cntVs] at ho
    have h48 := cont48M W out x (by omega)
    have ha := addU_cnt out x
    have nx := ih (k + 1) (addU out x) (by omega) (by omega) (by omega)
    have e : uniqV out (x :: c.drop (k + 1)) = uniqV (addU out x) (c.drop (k + 1)) := rfl
    rw [e]
    have hlo := encVs_len out
    have hlo2 := len_cnt out
    by_cases hm : x ∈ out
    · rw [decide_eq_true hm] at h48
      have ea : addU out x = out := by unfold addU; exact if_pos hm
      rw [ea] at nx ⊢
      have c1 : (!true) = false := rfl
      obtain ⟨hx', lx⟩ := x
      exact loop_next (body_of_sbodyK mixedz (b22i_1 W D p out c hx' lx i k true) (by clear nx ih; exact Id_z2) [] [] (σ3 := T22 p D c out i (k + 1)) (by clear nx ih; exact Id_z1)) nx
    · rw [decide_eq_false hm] at h48
      have ea : addU out x = out ++ [x] := by unfold addU; exact if_neg hm
      rw [ea] at nx ⊢
      have c1 : (!false) = true := rfl
      obtain ⟨hx', lx⟩ := x
      have hset : List.take out.length (encVs out) ++ [encV (.mk hx' lx)] = encVs (out ++ [.mk hx' lx]) := encVs_push out [.mk hx' lx]
      have hgl : out.length + [encV (.mk hx' lx)].length = (out ++ [JV.mk hx' lx]).length := by rw [List.length_append]; rfl
      have gl1 : [eV hx' lx].length = 1 := rfl
      exact loop_next (body_of_sbodyK mixedz (b22i_0 W D p out c hx' lx i k false) (by clear nx ih; exact Id_z2) [(100000, 100003)] [] (σ3 := T22 p D c (out ++ [.mk hx' lx]) i (k + 1)) (by clear nx ih; exact Id_z1)) nx
theorem loop22o (D : List Doc) (p : List (List UInt8)) (hD : dcnt D ≤ 2 ^ 29) : ∀ (q i : Nat) (out : List JV), D.length - i = q → i ≤ D.length → cntVs out + dcnt (D.drop i) ≤ 2 ^ 29 → LoopC Tryz.prog W [] (nslots Tryz.prog 22) (loopOf Tryz.prog 22 0) (S22 p D out i) (.exit 0) (E22 (uniqV out (allC p (D.drop i)))) := by
  have hDl := docs_len D
  have hDc := dcnt_len D
  intro q
  induction q with
  | zero =>
    intro i out hq hi ho
    rw [List.drop_eq_nil_of_le (by omega)]
    show LoopC _ _ _ _ _ _ _ (E22 out)
    exact loop_last (by simp) (body_of_sbodyK mixedz (b22o_1 W D p out i) Id_z2 [] [] Id_z1)
  | succ q ih =>
    intro i out hq hi ho
    obtain ⟨x, hx⟩ := getOf (l := D) (i := i) (by omega)
    have hws : IntKind.i64.wrap ((i : Int) + 1) = ((i + 1 : Nat) : Int) := wrap_succ (by omega)
    have hget := docs_geti hx
    rw [drop_cons hx] at ho ⊢
    simp only [dcnt] at ho
    have e : uniqV out (allC p (x :: D.drop (i + 1))) = uniqV (uniqV out (candV p x.v)) (allC p (D.drop (i + 1))) := by
      unfold allC uniqV; rw [List.flatMap_cons, List.foldl_append]
    rw [e]
    have hcc := candV_cnt p x.v
    have huc := uniq_cnt (candV p x.v) out
    have nx := ih (i + 1) (uniqV out (candV p x.v)) (by omega) (by omega) (by omega)
    have hlp := loop22i W D p (candV p x.v) i (by omega) (candV p x.v).length 0 out (by omega) (by omega) (by rw [List.drop_zero]; omega)
    rw [List.drop_zero] at hlp
    have hac := allV_cnt p x.v
    have h45 : MutC Tryz.prog W 45 [encV x.v, .sl 1 (p.map AV.str) []] [] (.ret (.sl 5 (encVs (allV x.v p)) []) []) := mut_of_pure (by simp only [cloL, encV_clo, Bool.and_self]; rfl) (all95 W _ x.v p (Nat.lt_succ_self _) (by omega))
    have h44 : MutC Tryz.prog W 44 [.sl 5 (encVs (allV x.v p)) []] [] (.ret (.sl 5 (encVs (candV p x.v)) []) []) := mut_of_pure (by simp only [cloL, encVs_clo, AV.clo, Bool.and_self]) (opened44 W _ (by omega))
    generalize candV p x.v = c at *
    generalize allV x.v p = l at *
    generalize uniqV out c = k2 at *
    obtain ⟨ix, vx, ⟨hx', lx⟩⟩ := x
    exact loop_next (body_of_sbodyK mixedz (b22o_0 W D p l out k2 c hx' lx ix vx i) (by clear nx ih; exact Id_z2) [] [] (σ3 := S22 p D k2 (i + 1)) (by clear nx ih; exact Id_z1)) nx
noncomputable def distV (p : List (List UInt8)) (D : List Doc) : List JV := sortS ltV (uniqV [] (allC p D))
theorem dist22M (D : List Doc) (p : List (List UInt8)) (hD : dcnt D ≤ 2 ^ 29) : MutC Tryz.prog W 22 [.sl 7 (docsA D) [], .sl 1 (p.map AV.str) []] [] (.ret (.gs 100010 0 (distV p D).length) [(100010, .arr 25 5 (encVs (distV p D)) .own)]) := by
  have hlp := loop22o W D p hD D.length 0 [] (by omega) (by omega) (by rw [List.drop_zero]; simp only [cntVs]; omega)
  rw [List.drop_zero] at hlp
  have hcu : cntVs (uniqV [] (allC p D)) ≤ 2 ^ 30 := by
    have h1 := uniq_cnt (allC p D) []
    have h2 : ∀ D : List Doc, cntVs (allC p D) ≤ dcnt D := by
      intro D
      induction D with
      | nil => simp [allC, cntVs, dcnt]
      | cons x D ih =>
        have := candV_cnt p x.v
        simp only [allC, List.flatMap_cons, cntVs_app, dcnt] at *; omega
    have := h2 D
    simp only [cntVs] at h1; omega
  have h51 := sort51 W (uniqV [] (allC p D)) hcu
  have hsl := sort_len (lt := ltV) (uniqV [] (allC p D))
  unfold distV
  rw [hsl]
  generalize sortS ltV (uniqV [] (allC p D)) = m at *
  generalize uniqV [] (allC p D) = out at *
  exact mut_of_sfun mixedz call22 rfl (p22_0 W D p out m out.length) Id_z2
theorem dist22P (D : List Doc) (p : List (List UInt8)) (hD : dcnt D ≤ 2 ^ 29) : Pure Tryz.prog W 22 [.sl 7 (docsA D) [], .sl 1 (p.map AV.str) []] (.sl 5 (encVs (distV p D)) []) :=
  pure_frz1 (dist22M W D p hD) (encVs_len _).symm (encVs_clo _)
end
end Dd
end Go.Ac

