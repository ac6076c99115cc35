/- What is proved: contracts of functions of this translation, walked; their plain meaning. No condition beyond those that each theorem names. -/
import Derived.Test.YtdalodgajiodhaaGreatDoorId6
set_option linter.all false
namespace Go.Ac
open Go Go.Proofs
set_option maxRecDepth 10000
set_option maxHeartbeats 1000000
namespace Dd
def z99 : AV := .agg [iA 3, iA 99, .str [], .val (.slice none 0 0), .val (.slice none 0 0)]
def z98 : AV := .agg [iA 3, iA 98, .str [], .val (.slice none 0 0), .val (.slice none 0 0)]
theorem stV99 (x : JV) : stV (encV x) 0 z99 = z99 := by
  obtain ⟨h, l⟩ := x
  exact if_pos ⟨rfl, rfl⟩
theorem repl_clo (a : AV) (h : a.clo = true) (n : Nat) : cloL (List.replicate n a) = true := by
  induction n with
  | zero => rfl
  | succ n ih => rw [List.replicate_succ]; simp only [cloL, ih, h, Bool.and_self]
theorem call6 : callable Tryz.prog 6 = true := by kernel_rfl
section
variable (W : World)
theorem loop6a (m : List JV) (hl : m.length ≤ 2 ^ 40) : ∀ (q i : Nat), m.length - i = q → i ≤ m.length → LoopC Tryz.prog W [] (nslots Tryz.prog 6) (loopOf Tryz.prog 6 0) (L6a m m (List.replicate i z99 ++ encVs (m.drop i)) m.length i) (.exit 0) (L6e m m (List.replicate m.length z99) m.length) := by
  intro q
  induction q with
  | zero =>
    intro i hq hi
    have e : i = m.length := by omega
    subst e
    have hset : List.replicate m.length z99 ++ encVs (m.drop m.length) = List.replicate m.length z99 := by rw [List.drop_eq_nil_of_le (Nat.le_refl _)]; exact List.append_nil _
    have hclo := repl_clo z99 rfl m.length
    exact loop_last (by simp) (body_of_sbodyK mixedz (b6a_1 W m m _ m.length m.length) Id_z2 [] [] Id_z1)
  | succ q ih =>
    intro i hq hi
    obtain ⟨x, hx⟩ := getOf (l := m) (i := i) (by omega)
    have hws : IntKind.i64.wrap ((i : Int) + 1) = ((i + 1 : Nat) : Int) := wrap_succ (by omega)
    have nx := ih (i + 1) (by omega) (by omega)
    have e1 : List.replicate i z99 ++ encVs (m.drop i) = List.replicate i z99 ++ encV x :: encVs (m.drop (i + 1)) := by rw [drop_cons hx]; rfl
    have hget : (List.replicate i z99 ++ encVs (m.drop i))[0 + ((i : Int)).toNat]? = some (encV x) := by
      rw [Int.toNat_natCast, Nat.zero_add, e1]; exact get_mid (by rw [List.length_replicate])
    have hset : (List.replicate i z99 ++ encVs (m.drop i)).set (0 + ((i : Int)).toNat) (stV (encV x) 0 z99) = List.replicate (i + 1) z99 ++ encVs (m.drop (i + 1)) := by
      rw [Int.toNat_natCast, Nat.zero_add, e1, set_mid (by rw [List.length_replicate]), stV99, List.replicate_succ', List.append_assoc]; rfl
    have hclo : cloL (List.replicate (i + 1) z99 ++ encVs (m.drop (i + 1))) = true := by simp only [clo_append, encVs_clo, repl_clo z99 rfl, Bool.and_self]
    exact loop_next (body_of_sbodyK mixedz (b6a_0 W m m _ (encV x) i m.length) (by clear nx ih; exact Id_z2) [] [] (σ3 := L6a m m (List.replicate (i + 1) z99 ++ encVs (m.drop (i + 1))) m.length (i + 1)) (by clear nx ih; exact Id_z1)) nx
theorem loop6b (m : List JV) : ∀ (q i : Nat) (els : List AV), 8 - i = q → i ≤ 8 → els.length + q ≤ 2 ^ 40 → cloL els = true → LoopC Tryz.prog W [] (nslots Tryz.prog 6) (loopOf Tryz.prog 6 1) (L6b m m els i) (.exit 2) (L6f m m) := by
  intro q
  induction q with
  | zero =>
    intro i els hq hi hl hclo
    exact loop_last (by simp) (body_of_sbodyK mixedz (b6b_1 W m m els i) Id_z2 [] [] Id_z1)
  | succ q ih =>
    intro i els hq hi hl hc
    have hws : IntKind.i64.wrap ((i : Int) + 1) = ((i + 1 : Nat) : Int) := wrap_succ (by omega)
    have hclo : cloL (els ++ [z98]) = true := by rw [clo_append, hc]; rfl
    have gl1 : [z98].length = 1 := rfl
    have hgl : els.length + [z98].length = (els ++ [z98]).length := by rw [List.length_append]
    have nx := ih (i + 1) (els ++ [z98]) (by omega) (by omega) (by omega) hclo
    have hset : List.take els.length els ++ [z98] = els ++ [z98] := by rw [List.take_length]
    have hb : (els.length + [z98].length) * 80 ≤ 140737488355328 := by omega
    exact loop_next (body_of_sbodyK mixedz (b6b_0 W m m els i) (by clear nx ih; exact Id_z2) [(100010, 100012)] [] (σ3 := L6b m m (els ++ [z98]) (i + 1)) (by clear nx ih; exact Id_z1)) nx
def X6 (p : List (List UInt8)) : List AV := List.take (0 + (List.map AV.str p).length) ([] ++ List.map AV.str p) ++ [BEH]
theorem X6_eq (p : List (List UInt8)) : X6 p = p.map AV.str ++ [BEH] := by unfold X6; rw [List.nil_append, Nat.zero_add, List.take_length]
theorem X6_clo (p : List (List UInt8)) : cloL (X6 p) = true := by rw [X6_eq, clo_append, cloL_str]; rfl
theorem frz6 (D : List Doc) (p : List (List UInt8)) : FrzTo [] ⟨[(0, sL 7 (docsA D)), (1, sL 1 (List.map AV.str p)), (5, .gs 100001 0 (0 + (docsA D).length)), (6, .gs 100005 0 (0 + (List.map AV.str p).length + [BEH].length))], [(100000, .dead), (100001, .arr 40 7 (docsA D) .own), (100002, .dead), (100003, .dead), (100004, .arr 9 1 [BEH] .own), (100005, .arr 9 1 (X6 p) .own)]⟩ [(100001, .arr 40 7 (docsA D) .own), (100005, .arr 9 1 (X6 p) .own)] [] [] (Z6 D p) := by
  refine ⟨⟨docs_clo D, X6_clo p, trivial⟩, ⟨[(0, sL 7 (docsA D)), (1, sL 1 (List.map AV.str p)), (5, sL 7 (docsA D)), (6, sL 1 (p.map AV.str ++ [BEH]))], frzL [(100001, .arr 40 7 (docsA D) .own), (100005, .arr 9 1 (X6 p) .own)] [(100000, .dead), (100001, .arr 40 7 (docsA D) .own), (100002, .dead), (100003, .dead), (100004, .arr 9 1 [BEH] .own), (100005, .arr 9 1 (X6 p) .own)]⟩, ?_, ?_⟩
  · unfold AS.frz
    congr 1
    simp [clT, clA, lk, X6_eq]
    rw [List.take_of_length_le (by simp)]
  · exact Id_z1
theorem distincts6 (D : List Doc) (p : List (List UInt8)) (hD : ∀ x ∈ D, okV x.v) (ht : ∀ x ∈ D, tnV x.v) (hl : D.length ≤ 2 ^ 41) : Pure Tryz.prog W 6 [.sl 7 (docsA D) [], .sl 1 (p.map AV.str) []] (bA true) := by
  have h9 : MutC Tryz.prog W 9 [] [] (.ret (bA true) []) := mut_of_pure rfl (live9 W)
  obtain ⟨b, hg8, hcnt⟩ := manyC W D hD (by omega)
  have h8 : MutC Tryz.prog W 8 [.sl 7 (docsA D) []] [] (.ret (bA b) []) := mut_of_pure (by simp [cloL, AV.clo, docs_clo]) hg8
  cases b with
  | true => exact pure_of_mut rfl (mut_of_sfun mixedz call6 rfl (p6_0 W D p true) (by clear hcnt hD ht; exact Id_z2))
  | false =>
    obtain ⟨hD150, hdc⟩ := hcnt rfl
    have hmp : (List.map AV.str p).length = p.length := List.length_map _
    by_cases hp : 100 < p.length
    · have c1 : decide (100 < ((List.map AV.str p).length : Int)) = true := decide_eq_true (by omega)
      exact pure_of_mut rfl (mut_of_sfun mixedz call6 rfl (p6_1 W D p false) (by clear hcnt hD ht; exact Id_z2))
    have c1 : decide (100 < ((List.map AV.str p).length : Int)) = false := decide_eq_false (by omega)
    have hG : ∀ d ∈ D, GV d.v := fun d hd => ⟨by have := dcnt_mem hd; omega, ht d hd⟩
    have hm := dist22M W D p hdc
    have hmP := mut_of_pure (by simp only [cloL, docs_clo, AV.clo, cloL_str, Bool.and_self]) (dist22P W D p hdc)
    have h23 := mut_of_pure (by simp only [cloL, docs_clo, AV.clo, cloL_str, Bool.and_self]) (dist23 W D p hdc hG)
    have hcu : ∀ D : List Doc, cntVs (allC p D) ≤ dcnt D := by
      intro D
      induction D with
      | nil => simp [allC, cntVs, dcnt]
      | cons x D ih =>
        have := candV_cnt p x.v
        simp only [allC, List.flatMap_cons, cntVs_app, dcnt] at *; omega
    have hdl : cntVs (uniqV [] (allC p D)) ≤ 2 ^ 29 := by
      have h1 := uniq_cnt (allC p D) []
      have := hcu D
      simp only [cntVs] at h1; omega
    have hll : (distV p D).length ≤ 2 ^ 30 := by
      unfold distV; rw [sort_len]
      have := len_cnt (uniqV [] (allC p D)); omega
    have hxc : ∀ x ∈ distV p D, cntV x ≤ 2 ^ 30 := by
      intro x hx
      unfold distV at hx
      rw [sort_mem] at hx
      obtain ⟨i, hi⟩ := List.getElem?_of_mem hx
      have := cntVs_get hi; omega
    have h24 := mut_of_pure (by simp only [cloL, encVs_clo, AV.clo, Bool.and_self]) (values24 W (distV p D) (by omega) hxc)
    have h24M := values24M W (distV p D) (by omega) hxc
    have l6a := loop6a W (distV p D) (by omega) (distV p D).length 0 (by omega) (by omega)
    have hrl : (List.replicate (distV p D).length z99).length = (distV p D).length := List.length_replicate
    have l6b := loop6b W (distV p D) 8 0 (List.replicate (distV p D).length z99) (by omega) (by omega) (by omega) (repl_clo _ rfl _)
    have hclo := repl_clo z99 rfl (distV p D).length
    have h17 : MutC Tryz.prog W 17 [.sl 7 (docsA D) [], .sl 7 (docsA D) []] [] (.ret (bA true) []) := mut_of_pure (by simp [cloL, AV.clo, docs_clo]) (docs17 W D hD (by omega))
    have hfz := frz6 D p
    clear hcnt hD ht hG hcu hdl hxc
    generalize distV p D = m at *
    have e1 : List.replicate 0 z99 ++ encVs (m.drop 0) = encVs m := rfl
    rw [e1] at l6a
    have q1 : List.drop 0 (List.take (((List.map AV.str p).length : Int)).toNat (List.map AV.str p ++ [BEH] ++ [])) = p.map AV.str := by
      rw [List.drop_zero, Int.toNat_natCast, List.append_nil, List.take_left]
    have q2 : List.drop (((List.map AV.str p).length : Int)).toNat (List.map AV.str p ++ [BEH] ++ []) = [BEH] := by
      rw [Int.toNat_natCast, List.append_nil, List.drop_left]
    have hm2 := mut_rest [BEH] hm
    have hmP2 := mut_rest [BEH] hmP
    have hb := p6_2 W D p m (List.replicate m.length z99) m.length false
    rw [q1, q2] at hb
    have hDl := docs_len D
    have hgl : m.length = (List.replicate m.length z99).length := hrl.symm
    have hset : List.replicate m.length z99 = List.replicate m.length z99 := rfl
    have hbe : (List.map AV.str p ++ [BEH])[(((List.map AV.str p).length : Int)).toNat]? = some (AV.str [98, 101, 104, 105, 110, 100]) := by
      rw [Int.toNat_natCast]; exact get_mid rfl
    have hb1 : (0 + (List.map AV.str p).length + [AV.str [98, 101, 104, 105, 110, 100]].length) * 16 ≤ 140737488355328 := by
      rw [hmp]; simp only [List.length_cons, List.length_nil]; omega
    have hb2 : (List.map AV.str p ++ [BEH]).length = p.length + 1 := by rw [List.length_append, hmp]; rfl
    have hgl3 : 0 + (List.map AV.str p).length = ([] ++ List.map AV.str p).length := by rw [List.nil_append, Nat.zero_add]
    exact pure_of_mut rfl (mut_of_sfun mixedz call6 rfl hb (by clear hb; exact Id_z2))
end
end Dd
end Go.Ac

