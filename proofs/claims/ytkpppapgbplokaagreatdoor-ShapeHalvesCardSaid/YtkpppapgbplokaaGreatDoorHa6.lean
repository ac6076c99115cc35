/- What is proved: contracts of functions of this translation, walked; their plain meaning. No condition beyond those that each theorem names. -/
import Derived.Test.YtkpppapgbplokaaGreatDoorHa5
set_option linter.all false
namespace Go.Ac
open Go Go.Proofs
set_option maxRecDepth 10000
set_option maxHeartbeats 1000000
theorem zhq {p : Prop} (h : p := by and_intros <;> first | exact trivial | exact gOK_ph' rfl (by decide) rfl | exact gOK_eq rfl rfl rfl | (refine gOK_box rfl rfl rfl ?_; exact zp) | exact gOK_arr rfl rfl rfl (by assumption) | exact gOK_arr rfl rfl hset (by assumption)) : p := h
theorem Ha6_z1 {kp f ph σ σ'} (h : MatchK kp f ph σ σ' := by exact ⟨by rfl, (by simp only [zF, H8, S8, T8, U8, E8, R8, H9, S9, T9, U9, E9, tOK, List.map_cons, List.map_nil, and_true] <;> exact zt), (by simp only [zF, H8, S8, T8, U8, E8, R8, H9, S9, T9, U9, E9, hOK, List.map_cons, List.map_nil, and_true] <;> exact zhq), (by simp only [zF, H8, S8, T8, U8, E8, R8, H9, S9, T9, U9, E9, liveT, List.map_cons, List.map_nil, and_true] <;> exact zvp), (by simp only [zF, H8, S8, T8, U8, E8, R8, H9, S9, T9, U9, E9, liveH, List.map_cons, List.map_nil, and_true] <;> exact zvp)⟩) : MatchK kp f ph σ σ' := h
theorem Ha6_z2 {cs} (h : Holds cs := by simp only [Holds, and_true] <;> and_intros <;> first | assumption | exact zd | exact Ha6_z1) : Holds cs := h
theorem call8h : callable Tryz.prog 8 = true := by kernel_rfl
theorem call9h : callable Tryz.prog 9 = true := by kernel_rfl
def oneV2 (b : Int) : JV := .mk ⟨3, b, [], []⟩ []
def inH (ts : List (List UInt8)) : JH := ⟨6, 0, [], ts⟩
def inL (ts : List (List UInt8)) (b : Int) : List JV := List.replicate ts.length (oneV2 b)
theorem inL_get {ts : List (List UInt8)} (b : Int) {i : Nat} (h : i < ts.length) : (inL ts b)[i]? = some (oneV2 b) := by
  unfold inL; rw [List.getElem?_replicate, if_pos h]
theorem inL_len (ts : List (List UInt8)) (b : Int) : (inL ts b).length = ts.length := by unfold inL; simp
section
variable (W : World)
theorem any8 (h : JH) (l : List JV) (acc : List (List (List UInt8))) (c : Bool) (n : Int) (i : Nat) (p : List (List UInt8)) (hp16 : p.length ≤ 16) : ∀ (j k : Nat), p.length - k = j → k ≤ p.length →
    ((p.drop k).any idxOk = false ∧ LoopC Tryz.prog W [] (nslots Tryz.prog 8) (loopOf Tryz.prog 8 1) (T8 h l acc c n i p k) (.exit 2) (U8 h l acc c n i p)) ∨ ((p.drop k).any idxOk = true ∧ LoopC Tryz.prog W [] (nslots Tryz.prog 8) (loopOf Tryz.prog 8 1) (T8 h l acc c n i p k) .ret (R8 20)) := by
  have hcl := ppA_clo acc
  intro j
  induction j with
  | zero =>
    intro k hj hk
    have e : decide ((k : Int) < (((p.map AV.str).length : Nat) : Int)) = false := by rw [List.length_map]; exact decide_eq_false (by omega)
    rw [List.drop_of_length_le (l := p) (by omega)]
    exact .inl ⟨rfl, loop_last (by simp) (body_of_sbodyK mixedz (d8_2 W h l acc c n i k p) Ha6_z2 [] [] Ha6_z1)⟩
  | succ j ihj =>
    intro k hj hk
    obtain ⟨x, hx⟩ := getOf (l := p) (i := k) (by omega)
    have e : decide ((k : Int) < (((p.map AV.str).length : Nat) : Int)) = true := by rw [List.length_map]; exact decide_eq_true (by omega)
    have hget : (p.map AV.str)[((k : Int)).toNat]? = some (AV.str x) := by rw [Int.toNat_natCast]; exact strs_get hx
    have hws : IntKind.i64.wrap ((k : Int) + 1) = ((k + 1 : Nat) : Int) := wrap_succ (by omega)
    have hc : MutC Tryz.prog W 23 [.str x] [] (.ret (idxA x) []) := mut_of_pure (by rfl) (index71 W x)
    unfold idxA at hc
    rw [drop_get hx, List.any_cons]
    cases hi : idxOk x with
    | true => exact .inr ⟨rfl, loop_last (by simp) (body_of_sbodyK mixedz (d8_0 W h l acc c n i k x p) Ha6_z2 [] [] Ha6_z1)⟩
    | false =>
      rw [Bool.false_or]
      have hb := body_of_sbodyK mixedz (d8_1 W h l acc c n i k x p) Ha6_z2 [] [] (σ3 := T8 h l acc c n i p (k + 1)) Ha6_z1
      rcases ihj (k + 1) (by omega) (by omega) with ⟨g1, g2⟩ | ⟨g1, g2⟩
      · exact .inl ⟨g1, loop_next hb g2⟩
      · exact .inr ⟨g1, loop_next hb g2⟩
theorem m24 (qs : List (List (List UInt8))) (n : Nat) (hn : n = qs.length) (h1 : qs.length ≤ 2 ^ 30) (h2 : ∀ p ∈ qs, p.length ≤ 16) : ∃ m : Int, MutC Tryz.prog W 24 [.gs 100006 0 n] [(100006, .arr 22 1 (ppA qs) .own)] (.ret (.tup [iA m, bA (cB qs)]) [(100006, .arr 22 1 (ppA qs) .own)]) := by
  subst hn
  obtain ⟨m, hm⟩ := clashes24 W qs h1 fun p hp => by have := h2 p hp; omega
  have e : clL [(100006, .arr 22 1 (ppA qs) .own)] [.gs 100006 0 qs.length] = [.sl 1 (ppA qs) []] := by
    simp [clA, clL, lk, ppA_len]; try exact List.take_of_length_le (by simp [ppA_len])
  refine ⟨m, mut_of_pureFlat (frz2 rfl (ppA_clo qs)) rfl (by rw [e]; simp [cloL, AV.clo, ppA_clo]) rfl (by rw [e]; exact hm)⟩
theorem loop8 (ts : List (List UInt8)) (hlen : ts.length ≤ 32) (htl : ∀ t ∈ ts, t.length ≤ 2 ^ 50) : ∀ (j i : Nat) (acc : List (List (List UInt8))) (c : Bool), ts.length - i = j → i ≤ ts.length → acc.length = i → (0 < i → c = true) → (∀ p ∈ acc, p.length ≤ 16) →
    (pfE (ts.drop i) acc = 0 ∧ ∃ c', LoopC Tryz.prog W [] (nslots Tryz.prog 8) (loopOf Tryz.prog 8 0) (S8 (inH ts) (inL ts 1) acc c ts.length i) (.exit 0) (E8 (acc ++ (ts.drop i).map parseP) c')) ∨ (LoopC Tryz.prog W [] (nslots Tryz.prog 8) (loopOf Tryz.prog 8 0) (S8 (inH ts) (inL ts 1) acc c ts.length i) .ret (R8 (pfE (ts.drop i) acc)) ∧ pfE (ts.drop i) acc ≠ 0) := by
  intro j
  induction j with
  | zero =>
    intro i acc c hj hi ha hc ha16
    have hcl := ppA_clo acc
    have e : decide ((i : Int) < (ts.length : Int)) = false := decide_eq_false (by omega)
    rw [List.drop_of_length_le (l := ts) (by omega), pfE, List.map_nil, List.append_nil]
    exact .inl ⟨rfl, c, loop_last (by simp) (body_of_sbodyK mixedz (b8x_4 W (inH ts) (inL ts 1) acc c ts.length i) Ha6_z2 [] [] Ha6_z1)⟩
  | succ j ihj =>
    intro i acc c hj hi ha hc ha16
    have hcl := ppA_clo acc
    obtain ⟨t, ht⟩ := getOf (l := ts) (i := i) (by omega)
    have e : decide ((i : Int) < (ts.length : Int)) = true := decide_eq_true (by omega)
    have hget : ((inH ts).names.map AV.str)[((i : Int)).toNat]? = some (AV.str t) := by rw [Int.toNat_natCast]; exact strs_get ht
    have hget2 : (encVs (inL ts 1))[((i : Int)).toNat]? = some (AV.agg [iA 3, iA 1, .str [], sL 1 [], sL 5 []]) := by rw [Int.toNat_natCast]; exact encVs_get (inL_get 1 (by omega))
    have hws : IntKind.i64.wrap ((i : Int) + 1) = ((i + 1 : Nat) : Int) := wrap_succ (by omega)
    have hP : MutC Tryz.prog W 14 [.str t] [] (.ret (parseAV t) []) := mut_of_pure (by rfl) (Parse23 W t (htl t (List.mem_of_getElem? ht)))
    have hp16 := parse_len t
    unfold parseAV at hP
    rw [pfE_at ht]
    by_cases h1 : parseE t ≠ 0
    · have c1 : (!decide (parseE t = 0)) = true := by rw [decide_eq_false h1]; rfl
      rw [if_pos h1]
      exact .inr ⟨loop_last (by simp) (body_of_sbodyK mixedz (b8x_0 W (inH ts) (inL ts 1) acc c ts.length (parseE t) (parseA t) i t (parseP t)) Ha6_z2 [] [] Ha6_z1), by decide⟩
    rw [if_neg h1]
    have h1' : parseE t = 0 := Classical.byContradiction h1
    rw [h1'] at hP
    have hmap : (ts.drop i).map parseP = parseP t :: (ts.drop (i + 1)).map parseP := by rw [drop_get ht, List.map_cons]
    rw [hmap]
    generalize parseP t = p at *
    generalize parseA t = a at *
    rcases any8 W (inH ts) (inL ts 1) acc c ts.length i p hp16 p.length 0 (by omega) (by omega) with ⟨g, hlp⟩ | ⟨g, hlp⟩
    case inr =>
      rw [List.drop_zero] at g
      rw [if_pos g]
      have c1 : (!decide ((0 : Int) = 0)) = false := by decide
      exact .inr ⟨loop_last (by simp) (body_of_sbodyK mixedz (b8r_1 W (inH ts) (inL ts 1) acc c ts.length 0 a i t p) Ha6_z2 [] [] Ha6_z1), by decide⟩
    rw [List.drop_zero] at g
    rw [if_neg (by rw [g]; simp)]
    have hl2 : (acc ++ [p]).length = acc.length + 1 := by simp
    have h16 : ∀ q ∈ acc ++ [p], q.length ≤ 16 := by
      intro q hq
      rcases List.mem_append.1 hq with hq | hq
      · exact ha16 q hq
      · obtain rfl := List.mem_singleton.1 hq; exact hp16
    have hcl2 := ppA_clo (acc ++ [p])
    obtain ⟨m, h24⟩ := m24 W (acc ++ [p]) (acc.length + 1) hl2.symm (by omega) h16
    have hmm : acc ++ p :: (ts.drop (i + 1)).map parseP = (acc ++ [p]) ++ (ts.drop (i + 1)).map parseP := by simp
    cases hcb : cB (acc ++ [p]) with
    | true =>
      rw [if_pos rfl]
      rw [hcb] at h24
      refine .inr ⟨?_, by decide⟩
      by_cases h0 : i = 0
      · subst h0
        obtain rfl : acc = [] := List.length_eq_zero_iff.1 ha
        have c0 : decide ((0 : Int) < ((0 : Nat) : Int)) = false := by decide
        exact loop_last (by simp) (body_of_sbodyK mixedz (b8t0 W (inH ts) (inL ts 1) c ts.length a m 0 t p) Ha6_z2 [] [] Ha6_z1)
      · obtain rfl := hc (by omega)
        have c0 : decide ((0 : Int) < (i : Int)) = true := decide_eq_true (by omega)
        have c9 : (!true == decide ((1 : Int) = 1)) = false := by decide
        exact loop_last (by simp) (body_of_sbodyK mixedz (b8t W (inH ts) (inL ts 1) true ts.length a m i t p acc (by omega)) Ha6_z2 [] [] Ha6_z1)
    | false =>
      rw [if_neg (by simp)]
      rw [hcb] at h24
      rw [hmm]
      have hnext : BodyC Tryz.prog W [] (nslots Tryz.prog 8) (loopOf Tryz.prog 8 0) (S8 (inH ts) (inL ts 1) acc c ts.length i) .normal (S8 (inH ts) (inL ts 1) (acc ++ [p]) true ts.length (i + 1)) := by
        by_cases h0 : i = 0
        · subst h0
          obtain rfl : acc = [] := List.length_eq_zero_iff.1 ha
          have c0 : decide ((0 : Int) < ((0 : Nat) : Int)) = false := by decide
          exact body_of_sbodyK mixedz (b8f0 W (inH ts) (inL ts 1) c ts.length a m 0 t p) Ha6_z2 [(100003, 100006)] [] Ha6_z1
        · obtain rfl := hc (by omega)
          have c0 : decide ((0 : Int) < (i : Int)) = true := decide_eq_true (by omega)
          have c9 : (!true == decide ((1 : Int) = 1)) = false := by decide
          exact body_of_sbodyK mixedz (b8f W (inH ts) (inL ts 1) true ts.length a m i t p acc (by omega)) Ha6_z2 [(100003, 100006)] [] Ha6_z1
      rcases ihj (i + 1) (acc ++ [p]) true (by omega) (by omega) (by omega) (fun _ => rfl) h16 with ⟨g1, c', g2⟩ | ⟨g1, g2⟩
      · exact .inl ⟨g1, c', loop_next hnext g2⟩
      · exact .inr ⟨loop_next hnext g1, g2⟩
theorem rparse8 (ts : List (List UInt8)) (hlen : ts.length ≤ 32) (htl : ∀ t ∈ ts, t.length ≤ 2 ^ 50) : ∃ (fs : List (List (List UInt8))) (c : Bool), Pure Tryz.prog W 8 [encV (.mk (inH ts) (inL ts 1))] (.tup [.agg [.sl 1 (ppA fs) [], bA c], iA (pfE ts [])]) := by
  have hm := mut_of_pure (by simp [cloL, encV_clo]) (members22 W (.mk (inH ts) (inL ts 1)))
  have hmem : (JV.mk (inH ts) (inL ts 1)).mem = ts.length := by unfold JV.mem; simp [JV.items, JV.names, JV.hd, inH, inL_len]
  rw [hmem] at hm
  have c1 : (!decide ((inH ts).kind = 6)) = false := by rfl
  have c2 : decide (32 < (ts.length : Int)) = false := decide_eq_false (by omega)
  rcases loop8 W ts hlen htl ts.length 0 [] false (by omega) (by omega) rfl (fun h => by omega) (fun p hp => by cases hp) with ⟨g1, c', hlp⟩ | ⟨hlp, g2⟩
  · rw [List.drop_zero] at g1 hlp
    rw [List.nil_append] at hlp
    rw [g1]
    generalize ts.map parseP = acc at *
    have hcl := ppA_clo acc
    refine ⟨acc, c', ?_⟩
    exact pure_frz [(100003, .arr 22 1 (ppA acc) .own)] (mut_of_sfun mixedz call8h rfl (p8_1 W (inH ts) (inL ts 1) acc c' ts.length) Ha6_z2) (frz2 rfl (ppA_clo acc)) (by
      simp [clA, clL, lk, iA, bA, ppA_len]; try exact List.take_of_length_le (by simp [ppA_len])) (by simp [AV.clo, cloL, ppA_clo, bA, iA])
  · rw [List.drop_zero] at hlp g2
    generalize pfE ts [] = e at *
    refine ⟨[], false, pure_leR (.tup (.cons (.agg (.cons (.nil 1) (.cons (.refl _) .nil))) (.cons (.refl _) .nil))) ?_⟩
    exact pure_of_mut rfl (mut_of_sfun mixedz call8h rfl (q8_1 W (inH ts) (inL ts 1) ts.length e) Ha6_z2)
theorem loop9_1 (ts : List (List UInt8)) (hlen : ts.length ≤ 32) : ∀ (j i : Nat) (acc : List (List (List UInt8))) (c : Bool), ts.length - i = j → i ≤ ts.length → acc.length = i → (0 < i → c = true) → pfE (ts.drop i) acc = 0 → (∀ q ∈ acc, q.length ≤ 16) →
    ∃ c', LoopC Tryz.prog W [] (nslots Tryz.prog 9) (loopOf Tryz.prog 9 0) (S9 (inH ts) (inL ts 1) acc c ts.length i) (.exit 0) (E9 (acc ++ (ts.drop i).map parseP) c') ∧ (i < ts.length → c' = true) ∧ (i = ts.length → c' = c) := by
  intro j
  induction j with
  | zero =>
    intro i acc c hj hi ha hc _ _
    have hcl := ppA_clo acc
    have e : decide ((i : Int) < (ts.length : Int)) = false := decide_eq_false (by omega)
    rw [List.drop_of_length_le (l := ts) (by omega), List.map_nil, List.append_nil]
    exact ⟨c, loop_last (by simp) (body_of_sbodyK mixedz (b9_0_3 W (inH ts) (inL ts 1) acc c ts.length i) Ha6_z2 [] [] Ha6_z1), fun h => by omega, fun _ => rfl⟩
  | succ j ihj =>
    intro i acc c hj hi ha hc hpf ha16
    have hcl := ppA_clo acc
    obtain ⟨t, ht⟩ := getOf (l := ts) (i := i) (by omega)
    have e : decide ((i : Int) < (ts.length : Int)) = true := decide_eq_true (by omega)
    have hget : ((inH ts).names.map AV.str)[((i : Int)).toNat]? = some (AV.str t) := by rw [Int.toNat_natCast]; exact strs_get ht
    have hget2 : (encVs (inL ts 1))[((i : Int)).toNat]? = some (AV.agg [iA 3, iA 1, .str [], sL 1 [], sL 5 []]) := by rw [Int.toNat_natCast]; exact encVs_get (inL_get 1 (by omega))
    have hws : IntKind.i64.wrap ((i : Int) + 1) = ((i + 1 : Nat) : Int) := wrap_succ (by omega)
    rw [pfE_at ht] at hpf
    have h1 : parseE t = 0 := Classical.byContradiction fun h1 => by rw [if_pos h1] at hpf; cases hpf
    rw [if_neg (by rw [h1]; simp)] at hpf
    have hP : MutC Tryz.prog W 25 [.str t] [] (.ret (parseAV t) []) := mut_of_pure (by rfl) (Parse76 W t (parse_ok h1).1)
    have hPA : parseA t = 0 := by unfold parseA; unfold parseE at h1; split at h1 <;> simp_all
    unfold parseAV at hP
    rw [h1, hPA] at hP
    have hp16 := parse_len t
    have hmap : (ts.drop i).map parseP = parseP t :: (ts.drop (i + 1)).map parseP := by rw [drop_get ht, List.map_cons]
    rw [hmap]
    generalize parseP t = p at *
    by_cases h2 : p.any idxOk = true
    · rw [if_pos h2] at hpf; cases hpf
    rw [if_neg h2] at hpf
    by_cases h3 : cB (acc ++ [p]) = true
    · rw [if_pos h3] at hpf; cases hpf
    rw [if_neg h3] at hpf
    have h26 : MutC Tryz.prog W 26 [sL 1 (p.map AV.str), .val (.func (.func 27) #[] #[])] [] (.ret (bA false) []) := mut_of_pure (by simp [cloL, AV.clo, cloL_str]) (noix26 W p (by omega) (any_false h2))
    have hany : ∀ q ∈ acc, clashB p q = false := by
      rw [cB_app, Bool.or_eq_true] at h3
      exact any_false fun q => h3 (.inr q)
    have inner : ∀ (j k : Nat), acc.length - k = j → k ≤ acc.length → LoopC Tryz.prog W [] (nslots Tryz.prog 9) (loopOf Tryz.prog 9 1) (T9 (inH ts) (inL ts 1) acc true ts.length i p k) (.exit 2) (U9 (inH ts) (inL ts 1) acc true ts.length i p) := by
      intro j
      induction j with
      | zero =>
        intro k hj hk
        have e2 : decide ((k : Int) < (acc.length : Int)) = false := decide_eq_false (by omega)
        exact loop_last (by simp) (body_of_sbodyK mixedz (d9_1 W (inH ts) (inL ts 1) acc true ts.length i k p) Ha6_z2 [] [] Ha6_z1)
      | succ j ihk =>
        intro k hj hk
        obtain ⟨q, hq⟩ := getOf (l := acc) (i := k) (by omega)
        have e2 : decide ((k : Int) < (acc.length : Int)) = true := decide_eq_true (by omega)
        have e3 : 0 ≤ (k : Int) ∧ (k : Int) < (acc.length : Int) := by omega
        have hg4 : (ppA acc)[0 + ((k : Int)).toNat]? = some (sL 1 (q.map AV.str)) := by rw [Int.toNat_natCast, Nat.zero_add]; exact ppA_get hq
        have hwk : IntKind.i64.wrap ((k : Int) + 1) = ((k + 1 : Nat) : Int) := wrap_succ (by omega)
        have hcq : MutC Tryz.prog W 29 [sL 1 (p.map AV.str), sL 1 (q.map AV.str)] [] (.ret (bA (clashB p q)) []) := mut_of_pure (by simp [cloL, AV.clo, cloL_str]) (clash29 W p q (by omega))
        rw [hany q (List.mem_of_getElem? hq)] at hcq
        exact loop_next (body_of_sbodyK mixedz (d9_0 W (inH ts) (inL ts 1) acc true ts.length i k p q) ⟨hcq, hg4, e3, e2, trivial⟩ [] [] (σ3 := T9 (inH ts) (inL ts 1) acc true ts.length i p (k + 1)) (by rw [show T9 (inH ts) (inL ts 1) acc true ts.length i p (k + 1) = ⟨[(1, .gp 100000 0), (5, .gp 100001 0), (7, .sl 1 (p.map AV.str) []), (27, iA ts.length), (28, iA i), (86, .gs 100002 0 acc.length), (87, iA acc.length), (88, iA (IntKind.i64.wrap ((k : Int) + 1)))], H9 (inH ts) (inL ts 1) acc true⟩ by rw [hwk]; rfl]; exact Ha6_z1)) (ihk (k + 1) (by omega) (by omega))
    have hlp := inner acc.length 0 (by omega) (by omega)
    have hset : List.take acc.length (ppA acc) ++ [AV.sl 1 (p.map AV.str) []] = ppA (acc ++ [p]) := by rw [← ppA_len acc, List.take_length]; simp [ppA]
    have hcl2 := ppA_clo (acc ++ [p])
    have q1 : (acc.length + [sL 1 (p.map AV.str)].length) * 24 ≤ 140737488355328 := by simp only [List.length_cons, List.length_nil]; omega
    have q2 : (St.own = St.own ∨ St.own = St.shr ∧ acc.length = (ppA acc).length) ∧ acc.length ≤ (ppA acc).length := ⟨.inl rfl, by rw [ppA_len]; omega⟩
    have hmm : acc ++ p :: (ts.drop (i + 1)).map parseP = (acc ++ [p]) ++ (ts.drop (i + 1)).map parseP := by simp
    have h16 : ∀ q ∈ acc ++ [p], q.length ≤ 16 := by
      intro q hq
      rcases List.mem_append.1 hq with hq | hq
      · exact ha16 q hq
      · obtain rfl := List.mem_singleton.1 hq; exact hp16
    rw [hmm]
    have hl2 : (acc ++ [p]).length = acc.length + 1 := by simp
    have hnext : BodyC Tryz.prog W [] (nslots Tryz.prog 9) (loopOf Tryz.prog 9 0) (S9 (inH ts) (inL ts 1) acc c ts.length i) .normal (S9 (inH ts) (inL ts 1) (acc ++ [p]) true ts.length (i + 1)) := by
      by_cases h0 : i = 0
      · subst h0
        have c0 : decide ((0 : Int) < ((0 : Nat) : Int)) = false := by decide
        exact body_of_sbodyK mixedz (b9_1_2 W (inH ts) (inL ts 1) acc c ts.length 0 t p) Ha6_z2 [(100002, 100004)] [] Ha6_z1
      · obtain rfl := hc (by omega)
        have c0 : decide ((0 : Int) < (i : Int)) = true := decide_eq_true (by omega)
        have c9 : (!true == decide ((1 : Int) = 1)) = false := by decide
        exact body_of_sbodyK mixedz (b9_1_1 W (inH ts) (inL ts 1) acc true ts.length i t p) Ha6_z2 [(100002, 100004)] [] Ha6_z1
    obtain ⟨c', g1, g2, g3⟩ := ihj (i + 1) (acc ++ [p]) true (by omega) (by omega) (by omega) (fun _ => rfl) hpf h16
    refine ⟨c', loop_next hnext g1, fun _ => ?_, fun h => by omega⟩
    by_cases hh : i + 1 < ts.length
    · exact g2 hh
    · exact g3 (by omega)
theorem parse9_1 (ts : List (List UInt8)) (hlen : ts.length ≤ 32) (h0 : ts ≠ []) (hpf : pfE ts [] = 0) : Pure Tryz.prog W 9 [encV (.mk (inH ts) (inL ts 1))] (.tup [fldA (ts.map parseP) true, iA 0]) := by
  have hln : 0 < ts.length := by cases ts with | nil => exact absurd rfl h0 | cons _ _ => simp
  obtain ⟨c', hlp, hc', _⟩ := loop9_1 W ts hlen ts.length 0 [] false (by omega) (by omega) rfl (fun h => by omega) hpf (fun p hp => by cases hp)
  obtain rfl := hc' hln
  rw [List.drop_zero, List.nil_append] at hlp
  have hmin : (if ((encVs (inL ts 1)).length : Int) < (((inH ts).names.map AV.str).length : Int) then ((encVs (inL ts 1)).length : Int) else (((inH ts).names.map AV.str).length : Int)) = (ts.length : Int) := by
    rw [encVs_len, inL_len, List.length_map]; simp [inH]
  have c1 : (!decide ((inH ts).kind = 6)) = false := by rfl
  have c2 : decide (32 < (ts.length : Int)) = false := decide_eq_false (by omega)
  generalize ts.map parseP = acc at *
  have hcl := ppA_clo acc
  have m1 : MatchK [] [] [] { t := [(0, .tup [.gp 100001 0, iA 0])], h := [(100001, gB (.agg [.gs 100002 0 acc.length, bA true])), (100002, .arr 22 1 (ppA acc) .own)] } { t := [(0, .tup [.gp 100001 0, iA 0])], h := [(100001, gB (.agg [.gs 100002 0 acc.length, bA true])), (100002, .arr 22 1 (ppA acc) .own)] } := Ha6_z1
  have m2 : MatchK [] [] [(100002, 1)] { t := [(1, .gp 100000 0), (5, .gp 100001 0), (27, iA (ts.length : Int)), (28, iA 0)], h := [(100000, gB (eV (inH ts) (inL ts 1))), (100001, gB (.agg [.val (Value.slice none 0 0), bA false]))] } (S9 (inH ts) (inL ts 1) [] false ts.length 0) := Ha6_z1
  have hM := p9_1 W (inH ts) (inL ts 1) acc true ts.length
  rw [hmin] at hM
  have h1 := mut_of_sfun mixedz call9h rfl hM ⟨m1, hlp, m2, c2, c1, trivial⟩
  have e1 : clA [(100002, .arr 22 1 (ppA acc) .own)] (.agg [.gs 100002 0 acc.length, bA true]) = .agg [.sl 1 (ppA acc) [], bA true] := by
    simp [clA, clL, lk, iA, bA, ppA_len]; try exact List.take_of_length_le (by simp [ppA_len])
  have h2 := mut_frzD (r2 := .tup [.gp 100001 0, iA 0]) (h2 := [(100001, .box (.agg [.sl 1 (ppA acc) [], bA true]) .own)]) [(100002, .arr 22 1 (ppA acc) .own)] h1 (frz2 rfl (ppA_clo acc)) (by simp [clA, clL, lk, iA]) (by
    have e3 : frzL1 [(100002, .arr 22 1 (ppA acc) .own)] [(100001, .box (.agg [.gs 100002 0 acc.length, bA true]) .own), (100002, .arr 22 1 (ppA acc) .own)] = [(100001, .box (.agg [.sl 1 (ppA acc) [], bA true]) .own), (100002, .arr 22 1 (ppA acc) .frz)] := by
      rw [← e1]; rfl
    rw [e3]; rfl)
  exact pure_frz [(100001, .box (.agg [.sl 1 (ppA acc) [], bA true]) .own)] h2 (frz2 rfl (by simp [Frzable, AV.clo, cloL, ppA_clo, bA])) (by simp [clA, clL, lk, iA, fldA]) (by simp [AV.clo, cloL, ppA_clo, bA, iA, fldA])
theorem loop9_0 (ts : List (List UInt8)) (hlen : ts.length ≤ 32) : ∀ (j i : Nat) (acc : List (List (List UInt8))) (c : Bool), ts.length - i = j → i ≤ ts.length → acc.length = i → (0 < i → c = false) → pfE (ts.drop i) acc = 0 → (∀ q ∈ acc, q.length ≤ 16) →
    ∃ c', LoopC Tryz.prog W [] (nslots Tryz.prog 9) (loopOf Tryz.prog 9 0) (S9 (inH ts) (inL ts 0) acc c ts.length i) (.exit 0) (E9 (acc ++ (ts.drop i).map parseP) c') ∧ (i < ts.length → c' = false) ∧ (i = ts.length → c' = c) := by
  intro j
  induction j with
  | zero =>
    intro i acc c hj hi ha hc _ _
    have hcl := ppA_clo acc
    have e : decide ((i : Int) < (ts.length : Int)) = false := decide_eq_false (by omega)
    rw [List.drop_of_length_le (l := ts) (by omega), List.map_nil, List.append_nil]
    exact ⟨c, loop_last (by simp) (body_of_sbodyK mixedz (b9_0_3 W (inH ts) (inL ts 0) acc c ts.length i) Ha6_z2 [] [] Ha6_z1), fun h => by omega, fun _ => rfl⟩
  | succ j ihj =>
    intro i acc c hj hi ha hc hpf ha16
    have hcl := ppA_clo acc
    obtain ⟨t, ht⟩ := getOf (l := ts) (i := i) (by omega)
    have e : decide ((i : Int) < (ts.length : Int)) = true := decide_eq_true (by omega)
    have hget : ((inH ts).names.map AV.str)[((i : Int)).toNat]? = some (AV.str t) := by rw [Int.toNat_natCast]; exact strs_get ht
    have hget2 : (encVs (inL ts 0))[((i : Int)).toNat]? = some (AV.agg [iA 3, iA 0, .str [], sL 1 [], sL 5 []]) := by rw [Int.toNat_natCast]; exact encVs_get (inL_get 0 (by omega))
    have hws : IntKind.i64.wrap ((i : Int) + 1) = ((i + 1 : Nat) : Int) := wrap_succ (by omega)
    rw [pfE_at ht] at hpf
    have h1 : parseE t = 0 := Classical.byContradiction fun h1 => by rw [if_pos h1] at hpf; cases hpf
    rw [if_neg (by rw [h1]; simp)] at hpf
    have hP : MutC Tryz.prog W 25 [.str t] [] (.ret (parseAV t) []) := mut_of_pure (by rfl) (Parse76 W t (parse_ok h1).1)
    have hPA : parseA t = 0 := by unfold parseA; unfold parseE at h1; split at h1 <;> simp_all
    unfold parseAV at hP
    rw [h1, hPA] at hP
    have hp16 := parse_len t
    have hmap : (ts.drop i).map parseP = parseP t :: (ts.drop (i + 1)).map parseP := by rw [drop_get ht, List.map_cons]
    rw [hmap]
    generalize parseP t = p at *
    by_cases h2 : p.any idxOk = true
    · rw [if_pos h2] at hpf; cases hpf
    rw [if_neg h2] at hpf
    by_cases h3 : cB (acc ++ [p]) = true
    · rw [if_pos h3] at hpf; cases hpf
    rw [if_neg h3] at hpf
    have h26 : MutC Tryz.prog W 26 [sL 1 (p.map AV.str), .val (.func (.func 27) #[] #[])] [] (.ret (bA false) []) := mut_of_pure (by simp [cloL, AV.clo, cloL_str]) (noix26 W p (by omega) (any_false h2))
    have hany : ∀ q ∈ acc, clashB p q = false := by
      rw [cB_app, Bool.or_eq_true] at h3
      exact any_false fun q => h3 (.inr q)
    have inner : ∀ (j k : Nat), acc.length - k = j → k ≤ acc.length → LoopC Tryz.prog W [] (nslots Tryz.prog 9) (loopOf Tryz.prog 9 1) (T9 (inH ts) (inL ts 0) acc false ts.length i p k) (.exit 2) (U9 (inH ts) (inL ts 0) acc false ts.length i p) := by
      intro j
      induction j with
      | zero =>
        intro k hj hk
        have e2 : decide ((k : Int) < (acc.length : Int)) = false := decide_eq_false (by omega)
        exact loop_last (by simp) (body_of_sbodyK mixedz (d9_1 W (inH ts) (inL ts 0) acc false ts.length i k p) Ha6_z2 [] [] Ha6_z1)
      | succ j ihk =>
        intro k hj hk
        obtain ⟨q, hq⟩ := getOf (l := acc) (i := k) (by omega)
        have e2 : decide ((k : Int) < (acc.length : Int)) = true := decide_eq_true (by omega)
        have e3 : 0 ≤ (k : Int) ∧ (k : Int) < (acc.length : Int) := by omega
        have hg4 : (ppA acc)[0 + ((k : Int)).toNat]? = some (sL 1 (q.map AV.str)) := by rw [Int.toNat_natCast, Nat.zero_add]; exact ppA_get hq
        have hwk : IntKind.i64.wrap ((k : Int) + 1) = ((k + 1 : Nat) : Int) := wrap_succ (by omega)
        have hcq : MutC Tryz.prog W 29 [sL 1 (p.map AV.str), sL 1 (q.map AV.str)] [] (.ret (bA (clashB p q)) []) := mut_of_pure (by simp [cloL, AV.clo, cloL_str]) (clash29 W p q (by omega))
        rw [hany q (List.mem_of_getElem? hq)] at hcq
        exact loop_next (body_of_sbodyK mixedz (d9_0 W (inH ts) (inL ts 0) acc false ts.length i k p q) ⟨hcq, hg4, e3, e2, trivial⟩ [] [] (σ3 := T9 (inH ts) (inL ts 0) acc false ts.length i p (k + 1)) (by rw [show T9 (inH ts) (inL ts 0) acc false ts.length i p (k + 1) = ⟨[(1, .gp 100000 0), (5, .gp 100001 0), (7, .sl 1 (p.map AV.str) []), (27, iA ts.length), (28, iA i), (86, .gs 100002 0 acc.length), (87, iA acc.length), (88, iA (IntKind.i64.wrap ((k : Int) + 1)))], H9 (inH ts) (inL ts 0) acc false⟩ by rw [hwk]; rfl]; exact Ha6_z1)) (ihk (k + 1) (by omega) (by omega))
    have hlp := inner acc.length 0 (by omega) (by omega)
    have hset : List.take acc.length (ppA acc) ++ [AV.sl 1 (p.map AV.str) []] = ppA (acc ++ [p]) := by rw [← ppA_len acc, List.take_length]; simp [ppA]
    have hcl2 := ppA_clo (acc ++ [p])
    have q1 : (acc.length + [sL 1 (p.map AV.str)].length) * 24 ≤ 140737488355328 := by simp only [List.length_cons, List.length_nil]; omega
    have q2 : (St.own = St.own ∨ St.own = St.shr ∧ acc.length = (ppA acc).length) ∧ acc.length ≤ (ppA acc).length := ⟨.inl rfl, by rw [ppA_len]; omega⟩
    have hmm : acc ++ p :: (ts.drop (i + 1)).map parseP = (acc ++ [p]) ++ (ts.drop (i + 1)).map parseP := by simp
    have h16 : ∀ q ∈ acc ++ [p], q.length ≤ 16 := by
      intro q hq
      rcases List.mem_append.1 hq with hq | hq
      · exact ha16 q hq
      · obtain rfl := List.mem_singleton.1 hq; exact hp16
    rw [hmm]
    have hl2 : (acc ++ [p]).length = acc.length + 1 := by simp
    have hnext : BodyC Tryz.prog W [] (nslots Tryz.prog 9) (loopOf Tryz.prog 9 0) (S9 (inH ts) (inL ts 0) acc c ts.length i) .normal (S9 (inH ts) (inL ts 0) (acc ++ [p]) false ts.length (i + 1)) := by
      by_cases h0 : i = 0
      · subst h0
        have c0 : decide ((0 : Int) < ((0 : Nat) : Int)) = false := by decide
        exact body_of_sbodyK mixedz (b9_0_2 W (inH ts) (inL ts 0) acc c ts.length 0 t p) Ha6_z2 [(100002, 100004)] [] Ha6_z1
      · obtain rfl := hc (by omega)
        have c0 : decide ((0 : Int) < (i : Int)) = true := decide_eq_true (by omega)
        have c9 : (!false == decide ((0 : Int) = 1)) = false := by decide
        exact body_of_sbodyK mixedz (b9_0_1 W (inH ts) (inL ts 0) acc false ts.length i t p) Ha6_z2 [(100002, 100004)] [] Ha6_z1
    obtain ⟨c', g1, g2, g3⟩ := ihj (i + 1) (acc ++ [p]) false (by omega) (by omega) (by omega) (fun _ => rfl) hpf h16
    refine ⟨c', loop_next hnext g1, fun _ => ?_, fun h => by omega⟩
    by_cases hh : i + 1 < ts.length
    · exact g2 hh
    · exact g3 (by omega)
theorem parse9_0 (ts : List (List UInt8)) (hlen : ts.length ≤ 32) (h0 : ts ≠ []) (hpf : pfE ts [] = 0) : Pure Tryz.prog W 9 [encV (.mk (inH ts) (inL ts 0))] (.tup [fldA (ts.map parseP) false, iA 0]) := by
  have hln : 0 < ts.length := by cases ts with | nil => exact absurd rfl h0 | cons _ _ => simp
  obtain ⟨c', hlp, hc', _⟩ := loop9_0 W ts hlen ts.length 0 [] false (by omega) (by omega) rfl (fun h => by omega) hpf (fun p hp => by cases hp)
  obtain rfl := hc' hln
  rw [List.drop_zero, List.nil_append] at hlp
  have hmin : (if ((encVs (inL ts 0)).length : Int) < (((inH ts).names.map AV.str).length : Int) then ((encVs (inL ts 0)).length : Int) else (((inH ts).names.map AV.str).length : Int)) = (ts.length : Int) := by
    rw [encVs_len, inL_len, List.length_map]; simp [inH]
  have c1 : (!decide ((inH ts).kind = 6)) = false := by rfl
  have c2 : decide (32 < (ts.length : Int)) = false := decide_eq_false (by omega)
  generalize ts.map parseP = acc at *
  have hcl := ppA_clo acc
  have m1 : MatchK [] [] [] { t := [(0, .tup [.gp 100001 0, iA 0])], h := [(100001, gB (.agg [.gs 100002 0 acc.length, bA false])), (100002, .arr 22 1 (ppA acc) .own)] } { t := [(0, .tup [.gp 100001 0, iA 0])], h := [(100001, gB (.agg [.gs 100002 0 acc.length, bA false])), (100002, .arr 22 1 (ppA acc) .own)] } := Ha6_z1
  have m2 : MatchK [] [] [(100002, 1)] { t := [(1, .gp 100000 0), (5, .gp 100001 0), (27, iA (ts.length : Int)), (28, iA 0)], h := [(100000, gB (eV (inH ts) (inL ts 0))), (100001, gB (.agg [.val (Value.slice none 0 0), bA false]))] } (S9 (inH ts) (inL ts 0) [] false ts.length 0) := Ha6_z1
  have hM := p9_1 W (inH ts) (inL ts 0) acc false ts.length
  rw [hmin] at hM
  have h1 := mut_of_sfun mixedz call9h rfl hM ⟨m1, hlp, m2, c2, c1, trivial⟩
  have e1 : clA [(100002, .arr 22 1 (ppA acc) .own)] (.agg [.gs 100002 0 acc.length, bA false]) = .agg [.sl 1 (ppA acc) [], bA false] := by
    simp [clA, clL, lk, iA, bA, ppA_len]; try exact List.take_of_length_le (by simp [ppA_len])
  have h2 := mut_frzD (r2 := .tup [.gp 100001 0, iA 0]) (h2 := [(100001, .box (.agg [.sl 1 (ppA acc) [], bA false]) .own)]) [(100002, .arr 22 1 (ppA acc) .own)] h1 (frz2 rfl (ppA_clo acc)) (by simp [clA, clL, lk, iA]) (by
    have e3 : frzL1 [(100002, .arr 22 1 (ppA acc) .own)] [(100001, .box (.agg [.gs 100002 0 acc.length, bA false]) .own), (100002, .arr 22 1 (ppA acc) .own)] = [(100001, .box (.agg [.sl 1 (ppA acc) [], bA false]) .own), (100002, .arr 22 1 (ppA acc) .frz)] := by
      rw [← e1]; rfl
    rw [e3]; rfl)
  exact pure_frz [(100001, .box (.agg [.sl 1 (ppA acc) [], bA false]) .own)] h2 (frz2 rfl (by simp [Frzable, AV.clo, cloL, ppA_clo, bA])) (by simp [clA, clL, lk, iA, fldA]) (by simp [AV.clo, cloL, ppA_clo, bA, iA, fldA])
end
end Go.Ac

