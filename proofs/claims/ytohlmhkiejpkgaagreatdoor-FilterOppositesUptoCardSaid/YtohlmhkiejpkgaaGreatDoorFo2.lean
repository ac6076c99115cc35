/- What is proved: contracts of functions of this translation, walked; their plain meaning. No condition beyond those that each theorem names. -/
import Derived.Test.YtohlmhkiejpkgaaGreatDoorFo1
set_option linter.all false
namespace Go.Ac
open Go Go.Proofs
set_option maxRecDepth 10000
set_option maxHeartbeats 4000000
theorem b24_100003 (W : World) (h : JH) (l : List JV) : sF W { lp := true } 24 [.gs 100003 0 3] [(100003, .arr 25 5 [eV h l, vN 3 1, .agg [iA 0, iA 0, .str [], .val (.slice none 0 0), .val (.slice none 0 0)]] .own)] 100004 [ee] [] = .ok (.ret (.agg [iA 5, iA 0, .str [], .val (Value.slice none 0 0), .gs 100003 0 3]) [(100003, .arr 25 5 [eV h l, vN 3 1, .agg [iA 0, iA 0, .str [], .val (Value.slice none 0 0), .val (Value.slice none 0 0)]] .own)], [ee], []) := by kernel_rfl
abbrev nV (k n : Int) : JV := .mk ⟨k, n, [], []⟩ []
abbrev itV (x : JV) : JV := lstV [x, nV 3 1, nV 0 0]
theorem cnt_obj (s : List UInt8) (v : JV) : cntV (objV s v) = 2 + cntV v := by simp only [cntV, cntVs, List.length_cons, List.length_nil] <;> omega
theorem size_obj (s : List UInt8) (v : JV) : sizeV (objV s v) = 1 + sizeV v := by rw [sizeV_eq]; simp only [JV.items, sizeVs, Nat.add_zero]
theorem cnt_lst (l : List JV) : cntV (lstV l) = 1 + cntVs l := by simp only [cntV, List.length_nil] <;> omega
theorem size_lst (l : List JV) : sizeV (lstV l) = 1 + sizeVs l := by rw [sizeV_eq]; rfl
theorem nm_obj {s : List UInt8} {v : JV} (hs : s.length ≤ 2 ^ 30) (hv : nmV v) : nmV (objV s v) := by
  refine ⟨fun x hx => ?_, hv, trivial⟩
  simp only [List.mem_cons, List.not_mem_nil, or_false] at hx
  rw [hx]; exact hs
theorem nm_lst {l : List JV} (hl : nmVs l) : nmV (lstV l) := ⟨fun x hx => by simp at hx, hl⟩
theorem nm_nV (k n : Int) : nmV (nV k n) := ⟨fun x hx => by simp at hx, trivial⟩
section
variable {A : JV → List JV → Bool} {M : JV → JV → Bool} {x : JV} {l : List JV}
theorem opG_ne : opG A M sNe x l = !eqG x l := by rw [opG, if_pos rfl]
theorem opG_nin : opG A M sNin x l = !(x.items.any fun y => eqG y l) := by rw [opG, if_neg (by decide), if_pos rfl]
theorem opG_not : opG A M sNot x l = !(A x l) := by rw [opG, if_neg (by decide), if_neg (by decide), if_pos rfl]
theorem opG_eq : opG A M sEq x l = eqG x l := by rw [opG, if_neg (by decide), if_neg (by decide), if_neg (by decide), if_pos rfl]
theorem opG_in : opG A M sIn x l = x.items.any (fun y => eqG y l) := by rw [opG, if_neg (by decide), if_neg (by decide), if_neg (by decide), if_neg (by decide), if_pos rfl]
theorem opG_all : opG A M sAll x l = (decide (0 < x.items.length) && x.items.all (fun y => eqG y l)) := by rw [opG, if_neg (by decide), if_neg (by decide), if_neg (by decide), if_neg (by decide), if_neg (by decide), if_pos rfl]
theorem opG_ex : opG A M sExists x l = decide ((0 < l.length) ↔ x.kind = 2) := by rw [opG, if_neg (by decide), if_neg (by decide), if_neg (by decide), if_neg (by decide), if_neg (by decide), if_neg (by decide), if_pos rfl]
theorem opG_gt : opG A M sGt x l = (testedL l).any (oneG sGt x) := by rw [opG, if_neg (by decide), if_neg (by decide), if_neg (by decide), if_neg (by decide), if_neg (by decide), if_neg (by decide), if_neg (by decide), if_neg (by decide), if_neg (by decide)]
theorem opG_lte : opG A M sLte x l = (testedL l).any (oneG sLte x) := by rw [opG, if_neg (by decide), if_neg (by decide), if_neg (by decide), if_neg (by decide), if_neg (by decide), if_neg (by decide), if_neg (by decide), if_neg (by decide), if_neg (by decide)]
end
theorem op1 (n : Nat) (x : JV) (L : List JV) : allF (n + 2) (objV sNe x) L = !allF (n + 2) (objV sEq x) L := by rw [all_op, all_op, opG_ne, opG_eq]
theorem op2 (n : Nat) (x : JV) (L : List JV) : allF (n + 2) (objV sNin x) L = !allF (n + 2) (objV sIn x) L := by rw [all_op, all_op, opG_nin, opG_in]
theorem op3 (n : Nat) (x : JV) (L : List JV) : allF (n + 2) (objV sNot (objV sGt x)) L = !allF (n + 2) (objV sGt x) L := by rw [all_op, all_op, opG_not, all_op, opG_gt, opG_gt]
theorem op4 (n : Nat) (x : JV) (L : List JV) : allF (n + 2) (objV sNot (objV sLte x)) L = !allF (n + 2) (objV sLte x) L := by rw [all_op, all_op, opG_not, all_op, opG_lte, opG_lte]
theorem op5 (n : Nat) (x : JV) (L : List JV) : allF (n + 2) (objV sNot (objV sAll x)) L = !allF (n + 2) (objV sAll x) L := by rw [all_op, all_op, opG_not, all_op, opG_all, opG_all]
theorem op6 (n : Nat) (L : List JV) : allF (n + 2) (objV sExists (nV 1 0)) L = !allF (n + 2) (objV sExists (nV 2 0)) L := by
  rw [all_op, all_op, opG_ex, opG_ex]
  have e1 : ¬ ((nV 1 0).kind = 2) := fun h => by simp [JV.kind, JV.hd] at h
  have e2 : (nV 2 0).kind = 2 := rfl
  cases L <;> simp [e1, e2]
section
variable (W : World)
theorem lst24_3 (x : JV) : MutC Tryz.prog W 24 [.gs 100003 0 3] [(100003, .arr 25 5 [encV x, vN 3 1, .agg [iA 0, iA 0, .str [], .val (.slice none 0 0), .val (.slice none 0 0)]] .own)] (.ret (I4 (encV x)) [(100003, .dead)]) := by
  obtain ⟨h, l⟩ := x
  refine mut_leR ?_ (mut_close (mut_of_sfun mixedz call24 rfl (b24_100003 W h l) trivial) (by simp [cloL, encV_clo, AV.clo, iA]) rfl)
  exact .agg (.cons (.refl _) (.cons (.refl _) (.cons (.refl _) (.cons (.nil 1) (.cons (.els (.cons (.refl _) (.cons (.refl _) (.cons (.agg (.cons (.refl _) (.cons (.refl _) (.cons (.refl _) (.cons (.nil 1) (.cons (.nil 5) .nil)))))) .nil))) (by
    intro e he
    simp only [List.mem_cons, List.not_mem_nil, or_false] at he
    rcases he with rfl | rfl | rfl <;> rfl)) .nil)))))
theorem num25 : MutC Tryz.prog W 25 [iA 1] [] (.ret (vN 3 1) []) :=
  mut_leR (.agg (.cons (.refl _) (.cons (.refl _) (.cons (.refl _) (.cons (.nil 1) (.cons (.nil 5) .nil)))))) (mut_of_sfun mixedz call25 rfl (p25_0 W 1) trivial)
theorem ex26 (k : Int) : MutC Tryz.prog W 26 [.str sExists, .agg [iA k, iA 0, .str [], .val (.slice none 0 0), .val (.slice none 0 0)]] [] (.ret (oA sExists (vN k 0)) []) :=
  mut_of_pure (by rfl) (fun β D I w vs hw hi hR => (obj26 W sExists (nV k 0)) β D I w vs hw hi (LeL.R (.cons (.refl _) (.cons (.agg (.cons (.refl _) (.cons (.refl _) (.cons (.refl _) (.cons (.nil 1) (.cons (.nil 5) .nil)))))) .nil)) hR))
theorem round4 {n : Nat} {s : List UInt8} {t u d : JV} {P : List AV} {i : Nat} (hp : parseE s = 0) (hs : s.length ≤ 2 ^ 20) (ht : TestOK n t) (hu : TestOK n u) (hct : cntV t ≤ 2 ^ 25) (hcu : cntV u ≤ 2 ^ 25) (hnt : nmV t) (hnu : nmV u)
    (hn : sizeV t + sizeV u + 4 ≤ n) (hcd : cntV d ≤ 2 ^ 29) (ho : allF n u (allV d (parseP s)) = !allF n t (allV d (parseP s))) (hi : i < 6) (hcl : cloL P = true) (hP : P[i]? = some (prA t.hd u.hd t.items u.items)) :
    BodyC Tryz.prog W [] (nslots Tryz.prog 4) (loopOf Tryz.prog 4 0) (S4 s d.hd d.items P i) .normal (S4 s d.hd d.items P (i + 1)) := by
  obtain ⟨c1, k1, _⟩ := chk_one hp ht (d := 0) (c := 0) (by omega) (by omega)
  obtain ⟨c2, k2, _⟩ := chk_one hp hu (d := 0) (c := 0) (by omega) (by omega)
  obtain ⟨c3, k3⟩ := chk_join1 (j := sNor) rfl hp ht
  obtain ⟨c4, k4⟩ := chk_join1 (j := sAnd) rfl hp ht
  obtain ⟨c5, k5⟩ := chk_join2 (j := sOr) rfl hp ht hu
  have hs30 : s.length ≤ 2 ^ 30 := by omega
  have m1 := matches27 W (x := d) k1 (by rw [size_obj]; omega) (by rw [cnt_obj]; omega) (nm_obj hs30 hnt) (by omega)
  have m2 := matches27 W (x := d) k2 (by rw [size_obj]; omega) (by rw [cnt_obj]; omega) (nm_obj hs30 hnu) (by omega)
  have m3 := matches27 W (x := d) k3 (by rw [size_obj, size_lst]; simp only [sizeVs]; rw [size_obj]; omega) (by rw [cnt_obj, cnt_lst]; simp only [cntVs]; rw [cnt_obj]; omega) (nm_obj (by decide) (nm_lst ⟨nm_obj hs30 hnt, trivial⟩)) (by omega)
  have m4 := matches27 W (x := d) k4 (by rw [size_obj, size_lst]; simp only [sizeVs]; rw [size_obj]; omega) (by rw [cnt_obj, cnt_lst]; simp only [cntVs]; rw [cnt_obj]; omega) (nm_obj (by decide) (nm_lst ⟨nm_obj hs30 hnt, trivial⟩)) (by omega)
  have m5 := matches27 W (x := d) k5 (by rw [size_obj, size_lst]; simp only [sizeVs]; rw [size_obj, size_obj]; omega) (by rw [cnt_obj, cnt_lst]; simp only [cntVs]; rw [cnt_obj, cnt_obj]; omega) (nm_obj (by decide) (nm_lst ⟨nm_obj hs30 hnt, nm_obj hs30 hnu, trivial⟩)) (by omega)
  rw [match_obj hp ht.is] at m1
  rw [match_obj hp hu.is, ho] at m2
  rw [match_nor, match_obj hp ht.is] at m3
  rw [match_and, match_obj hp ht.is] at m4
  rw [match_or, match_obj hp ht.is, match_obj hp hu.is, ho] at m5
  generalize allF n t (allV d (parseP s)) = v at m1 m2 m3 m4 m5
  have M1 := mut_of_pure (by simp only [cloL, encV_clo, Bool.and_self]) m1
  have M2 := mut_of_pure (by simp only [cloL, encV_clo, Bool.and_self]) m2
  have M3 := mut_of_pure (by simp only [cloL, encV_clo, Bool.and_self]) m3
  have M4 := mut_of_pure (by simp only [cloL, encV_clo, Bool.and_self]) m4
  have M5 := mut_of_pure (by simp only [cloL, encV_clo, Bool.and_self]) m5
  have hws : IntKind.i64.wrap ((i : Int) + 1) = ((i + 1 : Nat) : Int) := wrap_succ (by omega)
  have hQ : P[0 + ((i : Int)).toNat]? = some (prA t.hd u.hd t.items u.items) := by rw [Nat.zero_add, Int.toNat_natCast]; exact hP
  have hle : (0 : Int) ≤ i ∧ (i : Int) < 6 := ⟨by omega, by omega⟩
  have hdc : decide ((i : Int) < 6) = true := decide_eq_true (by omega)
  have A1 := obj26M W s t
  have A2 := obj26M W s u
  have L1 := lst24_5 W (objV s t)
  have L2 := lst24_6 W (objV s t)
  have L3 := lst24_7 W (objV s t) (objV s u)
  have J1 := obj26M W sNor (lstV [objV s t])
  have J2 := obj26M W sAnd (lstV [objV s t])
  have J3 := obj26M W sOr (lstV [objV s t, objV s u])
  obtain ⟨h, l⟩ := t
  obtain ⟨h2, l2⟩ := u
  obtain ⟨hd, ld⟩ := d
  cases v with
  | true =>
    refine body_of_sbodyK mixedz (b4t_0 W s h h2 hd l l2 ld P i) ?_ [] [] Fo1_z1
    exact ⟨M5, J3, L3, A2, hQ, hle, A1, hQ, hle, M4, J2, L2, A1, hQ, hle, M3, J1, L1, A1, hQ, hle, M2, A2, hQ, hle, M1, A1, hQ, hle, hdc, trivial⟩
  | false =>
    refine body_of_sbodyK mixedz (b4f_0 W s h h2 hd l l2 ld P i) ?_ [] [] Fo1_z1
    exact ⟨M5, J3, L3, A2, hQ, hle, A1, hQ, hle, M4, J2, L2, A1, hQ, hle, M3, J1, L1, A1, hQ, hle, M2, A2, hQ, hle, M1, A1, hQ, hle, hdc, trivial⟩
theorem cloL_P4 (x : JV) : cloL (P4 (encV x) (I4 (encV x))) = true := by simp [P4, I4, cloL, AV.clo, iA]
theorem loop4 {s : List UInt8} {x d : JV} (hp : parseE s = 0) (hs : s.length ≤ 2 ^ 20) (hcx : cntV x ≤ 2 ^ 24) (hnx : nmV x) (hcd : cntV d ≤ 2 ^ 29) :
    LoopC Tryz.prog W [] (nslots Tryz.prog 4) (loopOf Tryz.prog 4 0) (S4 s d.hd d.items (P4 (encV x) (I4 (encV x))) 0) (.exit 0) E4 := by
  have hcl := cloL_P4 x
  obtain ⟨n, hn⟩ : ∃ n, n = 2 * sizeV x + 60 := ⟨_, rfl⟩
  have hit : cntV (itV x) ≤ 2 ^ 24 + 10 := by rw [cnt_lst]; simp only [cntVs, cntV, List.length_nil]; omega
  have sit : sizeV (itV x) = sizeV x + 3 := by rw [size_lst]; simp only [sizeVs]; rw [sizeV_eq (nV 3 1), sizeV_eq (nV 0 0)]; simp only [JV.items, sizeVs]; omega
  have nit : nmV (itV x) := nm_lst ⟨hnx, nm_nV _ _, nm_nV _ _, trivial⟩
  have s1 : ∀ k : Int, sizeV (nV k 0) = 1 := fun k => by rw [sizeV_eq]; simp only [JV.items, sizeVs]
  have c1 : ∀ k : Int, cntV (nV k 0) = 1 := fun k => by simp only [cntV, cntVs, List.length_nil]
  have r0 := round4 W (n := n + 2) (t := objV sEq x) (u := objV sNe x) (d := d) (i := 0) hp hs (testOK_op rfl rfl rfl (by decide) (by decide)) (testOK_op rfl rfl rfl (by decide) (by decide)) (by rw [cnt_obj]; omega) (by rw [cnt_obj]; omega) (nm_obj (by decide) hnx) (nm_obj (by decide) hnx) (by rw [size_obj, size_obj]; omega) hcd (op1 n x _) (by omega) hcl rfl
  have r1 := round4 W (n := n + 2) (t := objV sIn (itV x)) (u := objV sNin (itV x)) (d := d) (i := 1) hp hs (testOK_op rfl rfl rfl (by decide) (by decide)) (testOK_op rfl rfl rfl (by decide) (by decide)) (by rw [cnt_obj]; omega) (by rw [cnt_obj]; omega) (nm_obj (by decide) nit) (nm_obj (by decide) nit) (by rw [size_obj, size_obj]; omega) hcd (op2 n _ _) (by omega) hcl rfl
  have r2 := round4 W (n := n + 2) (t := objV sGt x) (u := objV sNot (objV sGt x)) (d := d) (i := 2) hp hs (testOK_op rfl rfl rfl (by decide) (by decide)) (testOK_not rfl rfl (by decide) (by decide)) (by rw [cnt_obj]; omega) (by rw [cnt_obj, cnt_obj]; omega) (nm_obj (by decide) hnx) (nm_obj (by decide) (nm_obj (by decide) hnx)) (by rw [size_obj, size_obj, size_obj]; omega) hcd (op3 n x _) (by omega) hcl rfl
  have r3 := round4 W (n := n + 2) (t := objV sLte x) (u := objV sNot (objV sLte x)) (d := d) (i := 3) hp hs (testOK_op rfl rfl rfl (by decide) (by decide)) (testOK_not rfl rfl (by decide) (by decide)) (by rw [cnt_obj]; omega) (by rw [cnt_obj, cnt_obj]; omega) (nm_obj (by decide) hnx) (nm_obj (by decide) (nm_obj (by decide) hnx)) (by rw [size_obj, size_obj, size_obj]; omega) hcd (op4 n x _) (by omega) hcl rfl
  have r4 := round4 W (n := n + 2) (t := objV sAll (itV x)) (u := objV sNot (objV sAll (itV x))) (d := d) (i := 4) hp hs (testOK_op rfl rfl rfl (by decide) (by decide)) (testOK_not rfl rfl (by decide) (by decide)) (by rw [cnt_obj]; omega) (by rw [cnt_obj, cnt_obj]; omega) (nm_obj (by decide) nit) (nm_obj (by decide) (nm_obj (by decide) nit)) (by rw [size_obj, size_obj, size_obj]; omega) hcd (op5 n _ _) (by omega) hcl rfl
  have r5 := round4 W (n := n + 2) (t := objV sExists (nV 2 0)) (u := objV sExists (nV 1 0)) (d := d) (i := 5) hp hs (testOK_op rfl rfl rfl (by decide) (by decide)) (testOK_op rfl rfl rfl (by decide) (by decide)) (by rw [cnt_obj, c1]; omega) (by rw [cnt_obj, c1]; omega) (nm_obj (by decide) (nm_nV _ _)) (nm_obj (by decide) (nm_nV _ _)) (by rw [size_obj, size_obj, s1, s1]; omega) hcd (op6 n _) (by omega) hcl rfl
  have hl : BodyC Tryz.prog W [] (nslots Tryz.prog 4) (loopOf Tryz.prog 4 0) (S4 s d.hd d.items (P4 (encV x) (I4 (encV x))) 6) (.exit 0) E4 :=
    body_of_sbodyK mixedz (b4t_1 W s d.hd d.items (P4 (encV x) (I4 (encV x))) 6) ⟨rfl, trivial⟩ [] [] Fo1_z1
  exact loop_next r0 (loop_next r1 (loop_next r2 (loop_next r3 (loop_next r4 (loop_next r5 (loop_last (by simp) hl))))))
theorem opposites4 (s : List UInt8) (x d : JV) (hs : s.length ≤ 2 ^ 20) (hx : cntV x ≤ 2 ^ 24) (hd : cntV d ≤ 2 ^ 24) (hnx : nmV x) : Pure Tryz.prog W 4 [.str s, encV x, encV d] (bA true) := by
  obtain ⟨w, hw⟩ := large14 W [x, d] (by simp only [cntVs]; omega)
  have hc1 : MutC Tryz.prog W 14 [.gs 100002 0 2] [(100002, .arr 25 5 [encV x, encV d] .own)] (.ret (bA w) [(100002, .arr 25 5 [encV x, encV d] .own)]) :=
    mut_of_pureFlat (frz2 rfl (by simp [Frzable, cloL, encV_clo])) rfl (by rfl) rfl hw
  have hc2 := mut_of_pure (by rfl) (live15 W)
  have hc3 := mut_of_pure (by rfl) (Parse23 W s (by omega))
  have n25 := num25 W
  have l3 := lst24_3 W x
  have o1 := obj26M W sEq x
  have o2 := obj26M W sNe x
  have o3 := obj26M W sIn (itV x)
  have o4 := obj26M W sNin (itV x)
  have o5 := obj26M W sGt x
  have o6 := obj26M W sNot (objV sGt x)
  have o7 := obj26M W sLte x
  have o8 := obj26M W sNot (objV sLte x)
  have o9 := obj26M W sAll (itV x)
  have o10 := obj26M W sNot (objV sAll (itV x))
  have e1 := ex26 W 2
  have e2 := ex26 W 1
  have hlp : parseE s = 0 → _ := fun h => loop4 W (x := x) (d := d) h hs hx hnx (by omega)
  obtain ⟨h, l⟩ := x
  obtain ⟨h2, l2⟩ := d
  cases w with
  | true => exact pure_of_mut rfl (mut_of_sfun mixedz call4 rfl (p4_0 W s h h2 l l2 true true) ⟨hc2, rfl, hc1, trivial⟩)
  | false =>
    by_cases he : parseE s = 0
    · have hlp := hlp he
      unfold parseAV at hc3
      rw [he] at hc3
      refine pure_of_mut rfl (mut_of_sfun mixedz call4 rfl (p4_2 W s h h2 l l2 false true ((parseP s).map AV.str) 0 (parseA s)) ?_)
      exact ⟨hc2, hlp, Fo1_z1, e2, e1, o10, o9, o9, o8, o7, o7, o6, o5, o5, o4, o3, o2, o1, l3, n25, rfl, hc3, rfl, hc1, trivial⟩
    · have hb : (!decide (parseE s = 0)) = true := by rw [decide_eq_false he]; rfl
      unfold parseAV at hc3
      exact pure_of_mut rfl (mut_of_sfun mixedz call4 rfl (p4_1 W s h h2 l l2 false true ((parseP s).map AV.str) (parseE s) (parseA s)) ⟨hc2, hb, hc3, rfl, hc1, trivial⟩)
end
end Go.Ac

