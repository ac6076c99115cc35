/- What is proved: contracts of functions of this translation, walked; their plain meaning. No condition beyond those that each theorem names. -/
import Derived.Test.YtkpppapgbplokaaGreatDoorHa2
set_option linter.all false
namespace Go.Ac
open Go Go.Proofs
set_option maxRecDepth 10000
set_option maxHeartbeats 1000000
theorem frz2 {k : Nat} {g : GE} {h1 : List (Nat × GE)} (h : hg h1 k = some g) (hf : Frzable g) : ∀ p ∈ [(k, g)], hg h1 p.1 = some p.2 ∧ Frzable p.2 := by
  intro p hp; simp only [List.mem_singleton] at hp; subst hp; exact ⟨h, hf⟩
theorem zhp {p : Prop} (h : p := by and_intros <;> first | exact trivial | exact gOK_ph' rfl (by decide) rfl | exact gOK_eq rfl rfl rfl | (refine gOK_box rfl rfl rfl ?_; exact zp) | exact gOK_arr rfl rfl rfl (by assumption)) : p := h
theorem zvp {p : Prop} (h : p := by and_intros <;> first | rfl | exact trivial | exact allN_clo zb | exact allN_cloL (by assumption) | exact allN_cloL zb) : p := h
theorem Ha3_z1 {kp f ph σ σ'} (h : MatchK kp f ph σ σ' := by exact ⟨by rfl, (by simp only [E0, R4i, R2b, S18, S13, S16, E16, S47, E47, R47, S24, T24, R24, S45, tOK, List.map_cons, List.map_nil, and_true] <;> exact zt), (by simp only [E0, R4i, R2b, S18, S13, S16, E16, S47, E47, R47, S24, T24, R24, S45, hOK, List.map_cons, List.map_nil, and_true] <;> exact zhp), (by simp only [E0, R4i, R2b, S18, S13, S16, E16, S47, E47, R47, S24, T24, R24, S45, liveT, List.map_cons, List.map_nil, and_true] <;> exact zvp), (by simp only [E0, R4i, R2b, S18, S13, S16, E16, S47, E47, R47, S24, T24, R24, S45, liveH, List.map_cons, List.map_nil, and_true] <;> exact zvp)⟩) : MatchK kp f ph σ σ' := h
section
variable (W : World)
theorem restsG_at {ps : List (List (List UInt8))} {i : Nat} {p : List (List UInt8)} (hp : ps[i]? = some p) (s : List UInt8) (out : List (List (List UInt8))) : restsG s out (ps.drop i) = if p.head? = some s then (if p.length = 1 then ([], true) else restsG s (out ++ [p.tail]) (ps.drop (i + 1))) else restsG s out (ps.drop (i + 1)) := by
  rw [drop_get hp, restsG]
theorem rests47 (ps : List (List (List UInt8))) (s : List UInt8) (hne : ∀ p ∈ ps, p ≠ []) (hl : ps.length ≤ 2 ^ 30) : Pure Tryz.prog W 47 [.sl 1 (ppA ps) [], .str s] (.tup [.sl 1 (ppA (restsV ps s).1) [], bA (restsV ps s).2]) := by
  have loop : ∀ (j i : Nat) (out : List (List (List UInt8))), ps.length - i = j → i ≤ ps.length → out.length ≤ i →
      ((restsG s out (ps.drop i)).2 = false ∧ LoopC Tryz.prog W [] (nslots Tryz.prog 47) (loopOf Tryz.prog 47 0) (S47 ps out s i) (.exit 0) (E47 (restsG s out (ps.drop i)).1)) ∨ ((restsG s out (ps.drop i)).2 = true ∧ LoopC Tryz.prog W [] (nslots Tryz.prog 47) (loopOf Tryz.prog 47 0) (S47 ps out s i) .ret R47) := by
    intro j
    induction j with
    | zero =>
      intro i out hj hi ho
      have hcl := ppA_clo out
      have e : decide ((i : Int) < (((ppA ps).length : Nat) : Int)) = false := by rw [ppA_len]; exact decide_eq_false (by omega)
      rw [List.drop_of_length_le (l := ps) (by omega), restsG]
      dsimp only
      exact .inl ⟨rfl, loop_last (by simp) (body_of_sbodyK mixedz (b47_3 W ps out s i) Ha2_z2 [] [] Ha2_z1)⟩
    | succ j ihj =>
      intro i out hj hi ho
      have hcl := ppA_clo out
      obtain ⟨p, hp⟩ := getOf (l := ps) (i := i) (by omega)
      have e : decide ((i : Int) < (((ppA ps).length : Nat) : Int)) = true := by rw [ppA_len]; exact decide_eq_true (by omega)
      have hget : (ppA ps)[((i : Int)).toNat]? = some (.sl 1 (p.map AV.str) []) := by rw [Int.toNat_natCast]; exact ppA_get hp
      have hws : IntKind.i64.wrap ((i : Int) + 1) = ((i + 1 : Nat) : Int) := wrap_succ (by omega)
      have hp0 := hne p (List.mem_of_getElem? hp)
      obtain ⟨x, q, rfl⟩ : ∃ x q, p = x :: q := by cases p with | nil => exact absurd rfl hp0 | cons x q => exact ⟨x, q, rfl⟩
      have hgx : (List.map AV.str (x :: q))[0]? = some (AV.str x) := rfl
      rw [restsG_at hp]
      by_cases hx : x = s
      case neg =>
        have c1 : (!decide (x = s)) = true := by rw [decide_eq_false hx]; rfl
        rw [if_neg (by simpa using hx)]
        have hb := body_of_sbodyK mixedz (b47_0 W ps out (x :: q) s x i) Ha2_z2 [] [] (σ3 := S47 ps out s (i + 1)) Ha2_z1
        rcases ihj (i + 1) out (by omega) (by omega) (by omega) with ⟨g1, g2⟩ | ⟨g1, g2⟩
        · exact .inl ⟨g1, loop_next hb g2⟩
        · exact .inr ⟨g1, loop_next hb g2⟩
      have c1 : (!decide (x = s)) = false := by rw [decide_eq_true hx]; rfl
      rw [if_pos (by simpa using hx)]
      by_cases h1 : (x :: q).length = 1
      · have c2 : decide (((List.map AV.str (x :: q)).length : Int) = 1) = true := by rw [List.length_map]; exact decide_eq_true (by omega)
        rw [if_pos h1]
        exact .inr ⟨rfl, loop_last (by simp) (body_of_sbodyK mixedz (b47_1 W ps out (x :: q) s x i) Ha2_z2 [] [] Ha2_z1)⟩
      · have c2 : decide (((List.map AV.str (x :: q)).length : Int) = 1) = false := by rw [List.length_map]; exact decide_eq_false (by omega)
        rw [if_neg h1, List.tail_cons]
        have hdl : defLen (AV.sl 1 (List.map AV.str (x :: q)) []) = (x :: q).length := by simp [defLen]
        have e1 : List.drop 1 (List.take ((defLen (AV.sl 1 (List.map AV.str (x :: q)) []) : Nat) : Int).toNat (List.map AV.str (x :: q) ++ [])) = q.map AV.str := by
          rw [hdl, Int.toNat_natCast, List.append_nil, List.take_of_length_le (by simp)]; rfl
        have e2 : List.drop ((defLen (AV.sl 1 (List.map AV.str (x :: q)) []) : Nat) : Int).toNat (List.map AV.str (x :: q) ++ []) = [] := by
          rw [hdl, Int.toNat_natCast, List.append_nil, List.drop_of_length_le (by simp)]
        have hr : (1 : Int) ≤ ((defLen (AV.sl 1 (List.map AV.str (x :: q)) []) : Nat) : Int) ∧ ((defLen (AV.sl 1 (List.map AV.str (x :: q)) []) : Nat) : Int) ≤ ((List.map AV.str (x :: q)).length : Int) + 0 := by
          rw [hdl, List.length_map]; simp only [List.length_cons]; omega
        obtain ⟨hr1, hr2⟩ := hr
        have hset : List.take out.length (ppA out) ++ [AV.sl 1 (q.map AV.str) []] = ppA (out ++ [q]) := by rw [← ppA_len out, List.take_length]; simp [ppA]
        have hcl2 := ppA_clo (out ++ [q])
        have hb0 := b47_2 W ps out (x :: q) s x i
        rw [e1, e2] at hb0
        have hone : ([AV.sl 1 (q.map AV.str) []] : List AV).length = 1 := rfl
        have hout := ppA_len out
        have hlen : (out ++ [q]).length = out.length + 1 := by simp
        have hb := body_of_sbodyK mixedz hb0 ⟨by simp only [List.length_cons, List.length_nil]; omega, ⟨.inl rfl, by omega⟩, ⟨hr1, hr2⟩, c2, c1, hgx, hget, e, trivial⟩ [(100000, 100002)] [] (σ3 := S47 ps (out ++ [q]) s (i + 1)) (by
          refine ⟨by rfl, ?_, ?_, ?_, ?_⟩
          · simp only [S47, E47, tOK, List.map_cons, List.map_nil, and_true]
            and_intros <;> exact zp
          · simp only [S47, E47, hOK, List.map_cons, List.map_nil, and_true]
            exact gOK_arr rfl rfl hset hcl2
          · simp only [S47, E47, liveT, List.map_cons, List.map_nil, and_true]
            exact zv
          · simp only [S47, E47, liveH, List.map_cons, List.map_nil, and_true]
            exact allN_cloL hcl2)
        rcases ihj (i + 1) (out ++ [q]) (by omega) (by omega) (by simp only [List.length_append, List.length_cons, List.length_nil]; omega) with ⟨g1, g2⟩ | ⟨g1, g2⟩
        · exact .inl ⟨g1, loop_next hb g2⟩
        · exact .inr ⟨g1, loop_next hb g2⟩
  have hv : restsV ps s = restsG s [] ps := rfl
  rcases loop ps.length 0 [] (by omega) (by omega) (Nat.le_refl _) with ⟨g, hlp⟩ | ⟨g, hlp⟩
  · rw [List.drop_zero, ← hv] at g hlp
    rw [g]
    generalize (restsV ps s).1 = out at hlp
    have hcl := ppA_clo out
    have h := mut_of_sfun mixedz call47h rfl (p47_0 W ps out s) ⟨Ha3_z1, hlp, Ha3_z1, trivial⟩
    exact pure_frz [(100000, .arr 22 1 (ppA out) .own)] h (frz2 rfl (ppA_clo out)) (by
      simp [clA, clL, lk, iA, bA, ppA_len]; try exact List.take_of_length_le (by simp [ppA_len])) rfl
  · rw [List.drop_zero, ← hv] at g
    have h1 := restsG_snd s ps [] g
    rw [g, hv, h1]
    exact pure_leR (.tup (.cons (.nil 1) (.cons (.refl _) .nil))) (pure_of_mut rfl (mut_of_sfun mixedz call47h rfl (q47_0 W ps s) ⟨hlp, Ha3_z1, trivial⟩))
theorem anyC_at {p q : List (List UInt8)} {l : List (List (List UInt8))} {k : Nat} (h : l[k]? = some q) : anyC p (l.drop k) = (clashB p q || anyC p (l.drop (k + 1))) := by rw [drop_get h]; rfl
theorem cBG_at {ps : List (List (List UInt8))} {i : Nat} {p : List (List UInt8)} (h : ps[i]? = some p) : cBG (ps.take i) (ps.drop i) = (anyC p (ps.take i) || cBG (ps.take (i + 1)) (ps.drop (i + 1))) := by rw [drop_get h, cBG, take_snoc h]
theorem clashes24 (ps : List (List (List UInt8))) (hl : ps.length ≤ 2 ^ 30) (hpl : ∀ p ∈ ps, p.length < 2 ^ 62) : ∃ m : Int, Pure Tryz.prog W 24 [.sl 1 (ppA ps) []] (.tup [iA m, bA (cB ps)]) := by
  have inner : ∀ (i : Nat) (p : List (List UInt8)), ps[i]? = some p → ∀ (j k : Nat), i - k = j → k ≤ i →
      (anyC p ((ps.take i).drop k) = false ∧ LoopC Tryz.prog W [] (nslots Tryz.prog 24) (loopOf Tryz.prog 24 1) (T24 ps i k) (.exit 2) (S24 ps i)) ∨ (anyC p ((ps.take i).drop k) = true ∧ LoopC Tryz.prog W [] (nslots Tryz.prog 24) (loopOf Tryz.prog 24 1) (T24 ps i k) .ret (R24 i)) := by
    intro i p hp j
    have hil := (List.getElem?_eq_some_iff.1 hp).1
    induction j with
    | zero =>
      intro k hj hk
      have e : decide ((k : Int) < (i : Int)) = false := decide_eq_false (by omega)
      rw [List.drop_of_length_le (l := ps.take i) (by rw [List.length_take]; omega)]
      exact .inl ⟨rfl, loop_last (by simp) (body_of_sbodyK mixedz (d24_2 W ps i k) Ha2_z2 [] [] Ha2_z1)⟩
    | succ j ihj =>
      intro k hj hk
      obtain ⟨q, hq⟩ := getOf (l := ps) (i := k) (by omega)
      have hqt : (ps.take i)[k]? = some q := by rw [List.getElem?_take, if_pos (by omega)]; exact hq
      have e : decide ((k : Int) < (i : Int)) = true := decide_eq_true (by omega)
      have hg1 : (ppA ps)[((i : Int)).toNat]? = some (.sl 1 (p.map AV.str) []) := by rw [Int.toNat_natCast]; exact ppA_get hp
      have hg2 : (ppA ps)[((k : Int)).toNat]? = some (.sl 1 (q.map AV.str) []) := by rw [Int.toNat_natCast]; exact ppA_get hq
      have hws : IntKind.i64.wrap ((k : Int) + 1) = ((k + 1 : Nat) : Int) := wrap_succ (by omega)
      have hc := mut_of_pure (by rfl) (clash42 W p q (hpl p (List.mem_of_getElem? hp)))
      rw [anyC_at hqt]
      cases hcl : clashB p q with
      | true =>
        rw [hcl] at hc
        exact .inr ⟨rfl, loop_last (by simp) (body_of_sbodyK mixedz (d24_0 W ps p q i k true) Ha2_z2 [] [] Ha2_z1)⟩
      | false =>
        rw [hcl] at hc
        rw [Bool.false_or]
        have hb := body_of_sbodyK mixedz (d24_1 W ps p q i k false) Ha2_z2 [] [] (σ3 := T24 ps i (k + 1)) Ha2_z1
        rcases ihj (k + 1) (by omega) (by omega) with ⟨g1, g2⟩ | ⟨g1, g2⟩
        · exact .inl ⟨g1, loop_next hb g2⟩
        · exact .inr ⟨g1, loop_next hb g2⟩
  have outer : ∀ (j i : Nat), ps.length - i = j → i ≤ ps.length → (cBG (ps.take i) (ps.drop i) = false ∧ LoopC Tryz.prog W [] (nslots Tryz.prog 24) (loopOf Tryz.prog 24 0) (S24 ps i) (.exit 0) E0) ∨ (cBG (ps.take i) (ps.drop i) = true ∧ ∃ m : Nat, LoopC Tryz.prog W [] (nslots Tryz.prog 24) (loopOf Tryz.prog 24 0) (S24 ps i) .ret (R24 m)) := by
    intro j
    induction j with
    | zero =>
      intro i hj hi
      have e : decide ((i : Int) < (((ppA ps).length : Nat) : Int)) = false := by rw [ppA_len]; exact decide_eq_false (by omega)
      rw [List.drop_of_length_le (l := ps) (by omega)]
      exact .inl ⟨rfl, loop_last (by simp) (body_of_sbodyK mixedz (b24_1 W ps i) Ha2_z2 [] [] Ha2_z1)⟩
    | succ j ihj =>
      intro i hj hi
      obtain ⟨p, hp⟩ := getOf (l := ps) (i := i) (by omega)
      have e : decide ((i : Int) < (((ppA ps).length : Nat) : Int)) = true := by rw [ppA_len]; exact decide_eq_true (by omega)
      have hws : IntKind.i64.wrap ((i : Int) + 1) = ((i + 1 : Nat) : Int) := wrap_succ (by omega)
      rw [cBG_at hp]
      rcases inner i p hp i 0 (by omega) (by omega) with ⟨g, hlp⟩ | ⟨g, hlp⟩
      · rw [List.drop_zero] at g
        rw [g, Bool.false_or]
        have hb := body_of_sbodyK mixedz (b24_0 W ps i) Ha2_z2 [] [] (σ3 := S24 ps (i + 1)) Ha2_z1
        rcases ihj (i + 1) (by omega) (by omega) with ⟨g1, g2⟩ | ⟨g1, m, g2⟩
        · exact .inl ⟨g1, loop_next hb g2⟩
        · exact .inr ⟨g1, m, loop_next hb g2⟩
      · rw [List.drop_zero] at g
        rw [g, Bool.true_or]
        exact .inr ⟨rfl, i, loop_last (by simp) (body_of_sbodyK mixedz (c24_0 W ps i) Ha2_z2 [] [] Ha2_z1)⟩
  have hv : cB ps = cBG (ps.take 0) (ps.drop 0) := rfl
  rcases outer ps.length 0 (by omega) (by omega) with ⟨g, hlp⟩ | ⟨g, m, hlp⟩
  · rw [hv, g]
    exact ⟨0, pure_of_mut rfl (mut_of_sfun mixedz call24h rfl (p24_0 W ps) Ha2_z2)⟩
  · rw [hv, g]
    exact ⟨m, pure_of_mut rfl (mut_of_sfun mixedz call24h rfl (q24_0 W ps m) Ha2_z2)⟩
theorem noix26 (p : List (List UInt8)) (hl : p.length ≤ 2 ^ 30) (hno : ∀ s ∈ p, idxOk s = false) : Pure Tryz.prog W 26 [.sl 1 (p.map AV.str) [], .val (.func (.func 27) #[] #[])] (bA false) := by
  have loop : ∀ (j i : Nat), p.length - i = j → i ≤ p.length → LoopC Tryz.prog W [] (nslots Tryz.prog 45) (loopOf Tryz.prog 45 0) (S45 p i) (.exit 0) E0 := by
    intro j
    induction j with
    | zero =>
      intro i hj hi
      have e : decide ((i : Int) < (((p.map AV.str).length : Nat) : Int)) = false := by rw [List.length_map]; exact decide_eq_false (by omega)
      exact loop_last (by simp) (body_of_sbodyK mixedz (b45_2 W p i) Ha2_z2 [] [] Ha2_z1)
    | succ j ihj =>
      intro i hj hi
      obtain ⟨x, hx⟩ := getOf (l := p) (i := i) (by omega)
      have e : decide ((i : Int) < (((p.map AV.str).length : Nat) : Int)) = true := by rw [List.length_map]; exact decide_eq_true (by omega)
      have hget : (p.map AV.str)[((i : Int)).toNat]? = some (AV.str x) := by rw [Int.toNat_natCast]; exact strs_get hx
      have hws : IntKind.i64.wrap ((i : Int) + 1) = ((i + 1 : Nat) : Int) := wrap_succ (by omega)
      have hc := mut_of_pure (by rfl) (index91 W x)
      have hn := hno x (List.mem_of_getElem? hx)
      exact loop_next (body_of_sbodyK mixedz (b45_1 W p x i) Ha2_z2 [] [] Ha2_z1) (ihj (i + 1) (by omega) (by omega))
  have hlp := loop p.length 0 (by omega) (by omega)
  have h45 : Pure Tryz.prog W 45 [.sl 1 (p.map AV.str) [], .val (.func (.func 27) #[] #[])] (iA (-1)) := pure_of_mut rfl (mut_of_sfun mixedz call45h rfl (p45_0 W p) Ha2_z2)
  have hc := mut_of_pure (by rfl) h45
  exact pure_of_mut rfl (mut_of_sfun mixedz call26h rfl (p26_0 W p (-1)) Ha2_z2)
end
end Go.Ac

