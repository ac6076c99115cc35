/- What is proved: contracts of functions of this translation, walked; their plain meaning. No condition beyond those that each theorem names. -/
import Derived.Test.YtohlmhkiejpkgaaGreatDoorFt1
set_option linter.all false
namespace Go.Ac
open Go Go.Proofs
set_option maxRecDepth 10000
set_option maxHeartbeats 2000000
theorem paths_nm : ∀ (n : Nat) (q : JV), nmV q → ∀ p ∈ pathsF n q, p.length ≤ 2 ^ 30
  | 0, q, h, p, hp => by simp [pathsF] at hp
  | n + 1, q, h, p, hp => by
    rw [pathsF_eq] at hp
    obtain ⟨m, hm, hp⟩ := List.mem_flatMap.1 hp
    have hmm := mems_mem hm
    unfold pathG at hp
    rcases List.mem_append.1 hp with hp | hp
    · split at hp
      · cases hp
      · rw [List.mem_singleton] at hp; rw [hp]; exact nmV_name h hmm.1
    · split at hp
      · obtain ⟨y, hy1, hy2⟩ := List.mem_flatMap.1 hp
        exact paths_nm n y (nmV_mem (nmV_mem h hmm.2) hy1) p hy2
      · cases hp
section
variable (W : World) (q a b : JV) (ps : List (List UInt8))
theorem eq67 (x y : JV) (hx : cntV x ≤ 2 ^ 30) : MutC Tryz.prog W 67 [encV x, encV y] [] (.ret (bA (eqV x y)) []) :=
  mut_of_pure (by simp only [cloL, encV_clo, Bool.and_self]) (equal67 W _ x y (Nat.lt_succ_self _) (okV_cnt x (by omega)))
theorem loopN6 (i : Nat) (m : List JV) (hm : cntVs m ≤ 2 ^ 30) : ∀ (j k : Nat), m.length - k = j → k ≤ m.length →
    LoopC Tryz.prog W [] (nslots Tryz.prog 6) (loopOf Tryz.prog 6 1) (I6 q a b ps i m m k) (.exit 2) (S6 q a b ps i) := by
  intro j
  have hlm := cntVs_len m
  induction j with
  | zero =>
    intro k hk hle
    exact loop_last (by simp) (body_of_sbodyK mixedz (i6_2 W q a b ps i k m m) Ft1_z2 [] [] Ft1_z1)
  | succ j ih =>
    intro k hk hle
    obtain ⟨x, hx⟩ := getOf (l := m) (i := k) (by omega)
    have hws : IntKind.i64.wrap ((k : Int) + 1) = ((k + 1 : Nat) : Int) := wrap_succ (by omega)
    have hget : (encVs m)[((k : Int)).toNat]? = some (encV x) := by rw [Int.toNat_natCast]; exact encVs_get hx
    have hc := eq67 W x x (by have := cntVs_get hx; omega)
    rw [eqV_true] at hc
    obtain ⟨h2, l2⟩ := x
    exact loop_next (body_of_sbodyK mixedz (i6_1 W q a b ps i k m m true h2 h2 l2 l2) Ft1_z2 [] [] Ft1_z1) (ih (k + 1) (by omega) (by omega))
theorem loopR6 (i : Nat) (m n : List JV) (hm : cntVs m ≤ 2 ^ 30) (hmn : m.length = n.length) : ∀ (j k : Nat), m.length - k = j → m.drop k ≠ n.drop k →
    LoopC Tryz.prog W [] (nslots Tryz.prog 6) (loopOf Tryz.prog 6 1) (I6 q a b ps i m n k) .ret (R6 true) := by
  intro j
  have hlm := cntVs_len m
  have hc1 := mut_of_pure (by rfl) (live15 W)
  induction j with
  | zero =>
    intro k hk hne
    rw [List.drop_of_length_le (by omega), List.drop_of_length_le (by omega)] at hne
    exact absurd rfl hne
  | succ j ih =>
    intro k hk hne
    obtain ⟨x, hx⟩ := getOf (l := m) (i := k) (by omega)
    obtain ⟨y, hy⟩ := getOf (l := n) (i := k) (by omega)
    rw [drop_get hx, drop_get hy] at hne
    have hws : IntKind.i64.wrap ((k : Int) + 1) = ((k + 1 : Nat) : Int) := wrap_succ (by omega)
    have hget : (encVs m)[((k : Int)).toNat]? = some (encV x) := by rw [Int.toNat_natCast]; exact encVs_get hx
    have hget2 : (encVs n)[((k : Int)).toNat]? = some (encV y) := by rw [Int.toNat_natCast]; exact encVs_get hy
    have hc := eq67 W x y (by have := cntVs_get hx; omega)
    have hdc : decide ((k : Int) < ((encVs m).length : Int)) = true := by rw [encVs_len]; exact decide_eq_true (by omega)
    by_cases e : x = y
    · subst e
      rw [eqV_true] at hc
      have hnx := ih (k + 1) (by omega) (fun h => hne (by rw [h]))
      obtain ⟨h2, l2⟩ := x
      exact loop_next (body_of_sbodyK mixedz (i6_1 W q a b ps i k m n true h2 h2 l2 l2) Ft1_z2 [] [] Ft1_z1) hnx
    · rw [eqV_false e] at hc
      obtain ⟨h2, l2⟩ := x
      obtain ⟨h3, l3⟩ := y
      exact loop_last (by simp) (body_of_sbodyK mixedz (i6_0 W q a b ps i k m n true false h2 h3 l2 l3) Ft1_z2 [] [] Ft1_z1)
theorem all30M (v : JV) (s : List UInt8) (hv : cntV v ≤ 2 ^ 30) : MutC Tryz.prog W 30 [encV v, .sl 1 ((parseP s).map AV.str) []] [] (.ret (.sl 5 (encVs (allV v (parseP s))) []) []) :=
  mut_of_pure (by simp only [cloL, encV_clo, Bool.and_self]; rfl) (all30 W _ v (parseP s) (Nat.lt_succ_self _) hv)
theorem parse23M {s : List UInt8} (hs : s.length ≤ 2 ^ 30) (hE : parseE s = 0) : MutC Tryz.prog W 23 [.str s] [] (.ret (.tup [.sl 1 ((parseP s).map AV.str) [], iA 0, iA (parseA s)]) []) := by
  have := mut_of_pure (by rfl) (Parse23 W s hs)
  unfold parseAV at this
  rw [hE] at this; exact this
theorem step6 {s : List UInt8} {i : Nat} (hps : ps[i]? = some s) (hpl : ps.length ≤ 2 ^ 30) (hs : s.length ≤ 2 ^ 30) (hE : parseE s = 0) (ha : cntV a ≤ 2 ^ 30) (hb : cntV b ≤ 2 ^ 30) (he : allV a (parseP s) = allV b (parseP s)) :
    BodyC Tryz.prog W [] (nslots Tryz.prog 6) (loopOf Tryz.prog 6 0) (S6 q a b ps i) .normal (S6 q a b ps (i + 1)) := by
  have hil : i < ps.length := (List.getElem?_eq_some_iff.1 hps).1
  have hws : IntKind.i64.wrap ((i : Int) + 1) = ((i + 1 : Nat) : Int) := wrap_succ (by omega)
  have hget : (List.map AV.str ps)[((i : Int)).toNat]? = some (.str s) := by rw [Int.toNat_natCast]; exact strs_get hps
  have hc1 := parse23M W hs hE
  have hc2 := all30M W a s ha
  have hc3 := all30M W b s hb
  rw [← he] at hc3
  have hcm := allV_cnt (parseP s) a
  generalize allV a (parseP s) = m at hc2 hc3 hcm
  have hlp := loopN6 W q a b ps i m (by omega) m.length 0 (by omega) (by omega)
  obtain ⟨ga, la⟩ := a
  obtain ⟨gb, lb⟩ := b
  have hnb : (!decide (((encVs m).length : Int) = ((encVs m).length : Int))) = false := by rw [decide_eq_true rfl]; rfl
  exact body_of_sbodyK mixedz (b6_1 W q (.mk ga la) (.mk gb lb) ps i s ((parseP s).map AV.str) (parseA s) m m) Ft1_z2 [] [] Ft1_z1
theorem outN6 (hpl : ps.length ≤ 2 ^ 30) (hs : ∀ p ∈ ps, p.length ≤ 2 ^ 30) (hE : ∀ p ∈ ps, parseE p = 0) (ha : cntV a ≤ 2 ^ 30) (hb : cntV b ≤ 2 ^ 30) (hall : ∀ p ∈ ps, allV a (parseP p) = allV b (parseP p)) : ∀ (j i : Nat), ps.length - i = j → i ≤ ps.length →
    LoopC Tryz.prog W [] (nslots Tryz.prog 6) (loopOf Tryz.prog 6 0) (S6 q a b ps i) (.exit 0) (S6 q a b ps ps.length) := by
  intro j
  induction j with
  | zero =>
    intro i hk hle
    have e : i = ps.length := by omega
    subst e
    exact loop_last (by simp) (body_of_sbodyK mixedz (b6_2 W q a b ps ps.length) Ft1_z2 [] [] Ft1_z1)
  | succ j ih =>
    intro i hk hle
    obtain ⟨s, hps⟩ := getOf (l := ps) (i := i) (by omega)
    have hm := List.mem_of_getElem? hps
    exact loop_next (step6 W q a b ps hps hpl (hs s hm) (hE s hm) ha hb (hall s hm)) (ih (i + 1) (by omega) (by omega))
theorem outR6 (hpl : ps.length ≤ 2 ^ 30) (hs : ∀ p ∈ ps, p.length ≤ 2 ^ 30) (hE : ∀ p ∈ ps, parseE p = 0) (ha : cntV a ≤ 2 ^ 30) (hb : cntV b ≤ 2 ^ 30) : ∀ (j i : Nat), ps.length - i = j → (∃ p ∈ ps.drop i, allV a (parseP p) ≠ allV b (parseP p)) →
    LoopC Tryz.prog W [] (nslots Tryz.prog 6) (loopOf Tryz.prog 6 0) (S6 q a b ps i) .ret (R6 true) := by
  intro j
  have hc4 := mut_of_pure (by rfl) (live15 W)
  induction j with
  | zero =>
    intro i hk ⟨p, hp, _⟩
    rw [List.drop_of_length_le (by omega)] at hp
    cases hp
  | succ j ih =>
    intro i hk ⟨p, hp, hne⟩
    obtain ⟨s, hps⟩ := getOf (l := ps) (i := i) (by omega)
    have hm := List.mem_of_getElem? hps
    by_cases e : allV a (parseP s) = allV b (parseP s)
    · refine loop_next (step6 W q a b ps hps hpl (hs s hm) (hE s hm) ha hb e) (ih (i + 1) (by omega) ?_)
      rw [drop_get hps] at hp
      rcases List.mem_cons.1 hp with rfl | hp
      · exact absurd e hne
      · exact ⟨p, hp, hne⟩
    · have hget : (List.map AV.str ps)[((i : Int)).toNat]? = some (.str s) := by rw [Int.toNat_natCast]; exact strs_get hps
      have hc1 := parse23M W (hs s hm) (hE s hm)
      have hc2 := all30M W a s ha
      have hc3 := all30M W b s hb
      have hcm := allV_cnt (parseP s) a
      have hdc : decide ((i : Int) < ((List.map AV.str ps).length : Int)) = true := by rw [List.length_map]; exact decide_eq_true (by omega)
      generalize allV a (parseP s) = m at hc2 e hcm
      generalize allV b (parseP s) = n at hc3 e
      by_cases hl : m.length = n.length
      · have hlp := loopR6 W q a b ps i m n (by omega) hl m.length 0 (by omega) (by rw [List.drop_zero, List.drop_zero]; exact e)
        have hnb : (!decide (((encVs m).length : Int) = ((encVs n).length : Int))) = false := by rw [encVs_len, encVs_len, hl, decide_eq_true rfl]; rfl
        obtain ⟨ga, la⟩ := a
        obtain ⟨gb, lb⟩ := b
        exact loop_last (by simp) (body_of_sbodyK mixedz (c6_1 W q (.mk ga la) (.mk gb lb) ps i s ((parseP s).map AV.str) (parseA s) m n true) Ft1_z2 [] [] Ft1_z1)
      · have hnb : (!decide (((encVs m).length : Int) = ((encVs n).length : Int))) = true := by rw [encVs_len, encVs_len, decide_eq_false (by omega)]; rfl
        obtain ⟨ga, la⟩ := a
        obtain ⟨gb, lb⟩ := b
        exact loop_last (by simp) (body_of_sbodyK mixedz (b6_0 W q (.mk ga la) (.mk gb lb) ps i s ((parseP s).map AV.str) (parseA s) m n true) Ft1_z2 [] [] Ft1_z1)
theorem reaches6 (hq : cntV q ≤ 2 ^ 28) (ha : cntV a ≤ 2 ^ 28) (hb : cntV b ≤ 2 ^ 28) (hnm : nmV q) : Pure Tryz.prog W 6 [encV q, encV a, encV b] (bA true) := by
  obtain ⟨w, hw⟩ := large14 W [q, a, b] (by simp only [cntVs]; omega)
  have hc1 : MutC Tryz.prog W 14 [.gs 100003 0 3] [(100003, .arr 25 5 [encV q, encV a, encV b] .own)] (.ret (bA w) [(100003, .arr 25 5 [encV q, encV a, encV b] .own)]) :=
    mut_of_pureFlat (frz2 rfl (by simp [Frzable, cloL, encV_clo])) rfl (by rfl) rfl hw
  have hc2 := mut_of_pure (by rfl) (live15 W)
  have hk := check16 W (n := sizeV q + 1) (q := q) (Nat.lt_succ_self _) (by omega) hnm
  cases w with
  | true =>
    obtain ⟨h, l⟩ := q
    obtain ⟨h2, l2⟩ := a
    obtain ⟨h3, l3⟩ := b
    exact pure_of_mut rfl (mut_of_sfun mixedz call6 rfl (p6_0 W (.mk h l) (.mk h2 l2) (.mk h3 l3) true true) Ft1_z2)
  | false =>
    cases er : chkQ (sizeV q + 1) q 0 0 with
    | error e =>
      have hne := (chk_err _).2 _ _ _ _ er
      rw [er] at hk
      unfold chkA at hk
      have hc3 := mut_of_pure (by simp only [cloL, encV_clo, Bool.and_self]) (pure_leR (.tup (.cons (.refl _) (.cons (.top _) .nil))) hk)
      have hb1 : (!decide (e = 0)) = true := by rw [decide_eq_false hne]; rfl
      obtain ⟨h, l⟩ := q
      obtain ⟨h2, l2⟩ := a
      obtain ⟨h3, l3⟩ := b
      exact pure_of_mut rfl (mut_of_sfun mixedz call6 rfl (p6_1 W (.mk h l) (.mk h2 l2) (.mk h3 l3) e false true) Ft1_z2)
    | ok t =>
      rw [er] at hk
      unfold chkA at hk
      have hk2 : Pure Tryz.prog W 16 [encV q] (.tup [iA 0, .top]) := pure_leR (.tup (.cons (.refl _) (.cons (.top _) .nil))) hk
      have hc3 := mut_of_pure (by simp only [cloL, encV_clo, Bool.and_self]) hk2
      have hb1 : (!decide ((0 : Int) = 0)) = false := rfl
      have hc4 := mut_of_pure (by simp only [cloL, encV_clo, Bool.and_self]) (paths29 W (sizeV q + 1) q (Nat.lt_succ_self _) (by omega))
      have hE := paths_ok _ _ _ _ _ er
      have hN := paths_nm (sizeV q + 1) q hnm
      have hpl : (pathsF (sizeV q + 1) q).length ≤ 2 ^ 30 := by have := paths_len (sizeV q + 1) q; omega
      by_cases hall : ∀ p ∈ pathsF (sizeV q + 1) q, allV a (parseP p) = allV b (parseP p)
      · have hlp := outN6 W q a b _ hpl hN hE (by omega) (by omega) hall _ 0 rfl (Nat.zero_le _)
        have hm1 := mut_of_pure (by simp only [cloL, encV_clo, Bool.and_self]) (matches27 W (x := a) er (Nat.lt_succ_self _) (by omega) hnm (by omega))
        have hm2 := mut_of_pure (by simp only [cloL, encV_clo, Bool.and_self]) (matches27 W (x := b) er (Nat.lt_succ_self _) (by omega) hnm (by omega))
        rw [← match_cong a b _ _ _ _ _ er hall] at hm2
        generalize matchF (sizeV q + 1) q a = d at hm1 hm2
        have hb2 : (d == d) = true := by simp
        generalize pathsF (sizeV q + 1) q = ps at hc4 hlp
        obtain ⟨h, l⟩ := q
        obtain ⟨h2, l2⟩ := a
        obtain ⟨h3, l3⟩ := b
        exact pure_of_mut rfl (mut_of_sfun mixedz call6 rfl (p6_2 W (.mk h l) (.mk h2 l2) (.mk h3 l3) ps 0 false true d) Ft1_z2)
      · have hex : ∃ p ∈ (pathsF (sizeV q + 1) q).drop 0, allV a (parseP p) ≠ allV b (parseP p) := by
          rw [List.drop_zero]
          refine Classical.byContradiction fun hn => hall fun p hp => Classical.byContradiction fun hne => hn ⟨p, hp, hne⟩
        have hlp := outR6 W q a b _ hpl hN hE (by omega) (by omega) _ 0 rfl hex
        generalize pathsF (sizeV q + 1) q = ps at hc4 hlp
        obtain ⟨h, l⟩ := q
        obtain ⟨h2, l2⟩ := a
        obtain ⟨h3, l3⟩ := b
        exact pure_of_mut rfl (mut_of_sfun mixedz call6 rfl (r6_2 W (.mk h l) (.mk h2 l2) (.mk h3 l3) ps 0 false true) Ft1_z2)
end
end Go.Ac

