/- What is proved: contracts of functions of this translation, walked; their plain meaning. No condition beyond those that each theorem names. -/
import Derived.Test.YtohlmhkiejpkgaaGreatDoorFb19
set_option linter.all false
namespace Go.Ac
open Go Go.Proofs
set_option maxRecDepth 10000
set_option maxHeartbeats 1000000
theorem Fb20_z1 {cs} (h : Holds cs := by simp only [Holds, and_true] <;> and_intros <;> first | exact zd) : Holds cs := h
theorem p5_0 (W : World) (h : JH) (l : List JV) (h2 : JH) (l2 : List JV) (w : Bool) : sF W { lp := true, tl := [14, 15, 16, 27, 28] } 5 [eV h l, eV h2 l2] [] 100000 [ee, cR (bA w) [(100002, .arr 25 5 [eV h l, eV h2 l2] .own)], bt, ee, cR (bA true) [], ee] [] = .ok (.ret (bA true) [], [ee], [MZ W 15 [] [] (.ret (bA true) []), w = true, MZ W 14 [.gs 100002 0 2] [(100002, .arr 25 5 [eV h l, eV h2 l2] .own)] (.ret (bA w) [(100002, .arr 25 5 [eV h l, eV h2 l2] .own)])]) := by kernel_rfl
theorem p5_1 (W : World) (h : JH) (l : List JV) (h2 : JH) (l2 : List JV) (c : Int) (w : Bool) : sF W { lp := true, tl := [14, 15, 16, 27, 28] } 5 [eV h l, eV h2 l2] [] 100000 [ee, cR (bA w) [(100002, .arr 25 5 [eV h l, eV h2 l2] .own)], bf, ee, cR (.tup [iA c, .top]) [], bt, ee, cR (bA true) [], ee] [] = .ok (.ret (bA true) [], [ee], [MZ W 15 [] [] (.ret (bA true) []), (!decide (c = 0)) = true, MZ W 16 [eV h l] [] (.ret (.tup [iA c, .top]) []), w = false, MZ W 14 [.gs 100002 0 2] [(100002, .arr 25 5 [eV h l, eV h2 l2] .own)] (.ret (bA w) [(100002, .arr 25 5 [eV h l, eV h2 l2] .own)])]) := by kernel_rfl
theorem p5_2 (W : World) (h : JH) (l : List JV) (h2 : JH) (l2 : List JV) (c : Int) (w : Bool) (x y : Bool) (h3 : JH) (l3 : List JV) : sF W { lp := true, tl := [14, 15, 16, 27, 28] } 5 [eV h l, eV h2 l2] [] 100000 [ee, cR (bA w) [(100002, .arr 25 5 [eV h l, eV h2 l2] .own)], bf, ee, cR (.tup [iA c, .top]) [], bf, ee, cR (.tup [bA x, bA true]) [], ee, cR (eV h3 l3) [], ee, cR (.tup [bA y, bA true]) [], aE 6, bt, ee, cR (bA true) [], bt, ee] [] = .ok (.ret (bA true) [], [ee], [(x == y) = true, MZ W 15 [] [] (.ret (bA true) []), (x == y) = true, MZ W 27 [eV h3 l3, eV h2 l2] [] (.ret (.tup [bA y, bA true]) []), MZ W 28 [eV h l] [] (.ret (eV h3 l3) []), MZ W 27 [eV h l, eV h2 l2] [] (.ret (.tup [bA x, bA true]) []), (!decide (c = 0)) = false, MZ W 16 [eV h l] [] (.ret (.tup [iA c, .top]) []), w = false, MZ W 14 [.gs 100002 0 2] [(100002, .arr 25 5 [eV h l, eV h2 l2] .own)] (.ret (bA w) [(100002, .arr 25 5 [eV h l, eV h2 l2] .own)])]) := by kernel_rfl
theorem call5 : callable Tryz.prog 5 = true := by kernel_rfl
theorem turn_nm {q : JV} (h : nmV q) : nmV (turnV q) := by
  have hs : ∀ l : List JV, (∀ x ∈ l, nmV x) → nmVs l := by
    intro l
    induction l with
    | nil => intro _; trivial
    | cons a l ih => intro hl; exact ⟨hl a (by simp), ih fun x hx => hl x (by simp [hx])⟩
  refine ⟨fun s hx => ?_, hs _ fun x hx => ?_⟩
  · exact nmV_name h (List.mem_of_mem_take (List.mem_reverse.1 hx))
  · exact nmV_mem h (List.mem_of_mem_take (List.mem_reverse.1 hx))
theorem cntVs_rev : ∀ l : List JV, cntVs l.reverse = cntVs l
  | [] => rfl
  | a :: l => by rw [List.reverse_cons, cntVs_app, cntVs_rev l]; simp only [cntVs]; omega
theorem sizeVs_app : ∀ a b : List JV, sizeVs (a ++ b) = sizeVs a + sizeVs b
  | [], b => by simp [sizeVs]
  | x :: a, b => by simp only [List.cons_append, sizeVs, sizeVs_app a b]; omega
theorem sizeVs_rev : ∀ l : List JV, sizeVs l.reverse = sizeVs l
  | [] => rfl
  | a :: l => by rw [List.reverse_cons, sizeVs_app, sizeVs_rev l]; simp only [sizeVs]; omega
theorem turn_size (q : JV) : sizeV (turnV q) ≤ sizeV q ∧ cntV (turnV q) ≤ cntV q := by
  have h1 := sizeVs_take q.items q.mem
  have h2 := cntVs_take q.items q.mem
  refine ⟨?_, ?_⟩
  · rw [sizeV_eq, sizeV_eq]; show 1 + sizeVs (q.items.take q.mem).reverse ≤ _; rw [sizeVs_rev]; omega
  · rw [cntV_eq, cntV_eq]; show 1 + (q.names.take q.mem).reverse.length + cntVs (q.items.take q.mem).reverse ≤ _
    rw [cntVs_rev]; simp only [List.length_reverse, List.length_take]; omega
theorem order5 (W : World) (q d : JV) (hq : cntV q ≤ 2 ^ 29) (hd : cntV d ≤ 2 ^ 29) (hnm : nmV q) : Pure Tryz.prog W 5 [encV q, encV d] (bA true) := by
  obtain ⟨w, hw⟩ := large14 W [q, d] (by simp only [cntVs]; omega)
  have hc1 : MutC Tryz.prog W 14 [.gs 100002 0 2] [(100002, .arr 25 5 [encV q, encV d] .own)] (.ret (bA w) [(100002, .arr 25 5 [encV q, encV d] .own)]) :=
    mut_of_pureFlat (frz2 rfl (by simp [Frzable, cloL, encV_clo])) rfl (by rfl) rfl hw
  have hc2 := mut_of_pure (by rfl) (live15 W)
  have hk := check16 W (n := sizeV q + 1) (q := q) (Nat.lt_succ_self _) (by omega) hnm
  cases w with
  | true =>
    obtain ⟨h, l⟩ := q
    obtain ⟨h2, l2⟩ := d
    exact pure_of_mut rfl (mut_of_sfun mixedz call5 rfl (p5_0 W h l h2 l2 true) Fb20_z1)
  | false =>
    cases er : chkQ (sizeV q + 1) q 0 0 with
    | error e =>
      have hne := (chk_err _).2 _ _ _ _ er
      rw [er] at hk
      unfold chkA at hk
      have hc3 := mut_of_pure (by simp only [cloL, encV_clo, Bool.and_self]) hk
      have hb1 : (!decide (e = 0)) = true := by rw [decide_eq_false hne]; rfl
      obtain ⟨h, l⟩ := q
      obtain ⟨h2, l2⟩ := d
      exact pure_of_mut rfl (mut_of_sfun mixedz call5 rfl (p5_1 W h l h2 l2 e false) Fb20_z1)
    | ok t =>
      rw [er] at hk
      unfold chkA at hk
      have hk2 : Pure Tryz.prog W 16 [encV q] (.tup [iA 0, .top]) := pure_leR (.tup (.cons (.refl _) (.cons (.top _) .nil))) hk
      have hc3 := mut_of_pure (by simp only [cloL, encV_clo, Bool.and_self]) hk2
      have hb1 : (!decide ((0 : Int) = 0)) = false := rfl
      have ht := turn_size q
      have hc4 := mut_of_pure (by simp only [cloL, encV_clo, Bool.and_self]) (turned28 W q (by omega))
      have hm1 := mut_of_pure (by simp only [cloL, encV_clo, Bool.and_self]) (matches27 W (x := d) er (Nat.lt_succ_self _) (by omega) hnm (by omega))
      have hm2 := mut_of_pure (by simp only [cloL, encV_clo, Bool.and_self]) (matches27 W (x := d) (turn_chk er) (by omega) (by omega) (turn_nm hnm) (by omega))
      rw [turn_match] at hm2
      have hb2 : (matchF (sizeV q + 1) q d == matchF (sizeV q + 1) q d) = true := by simp
      generalize matchF (sizeV q + 1) q d = x at hm1 hm2 hb2
      generalize turnV q = q2 at hm2 hc4
      obtain ⟨h, l⟩ := q
      obtain ⟨h2, l2⟩ := d
      obtain ⟨h3, l3⟩ := q2
      have hc := hm1
      have hc5 := hm2
      exact pure_of_mut rfl (mut_of_sfun mixedz call5 rfl (p5_2 W h l h2 l2 0 false x x h3 l3) Fb20_z1)
end Go.Ac

