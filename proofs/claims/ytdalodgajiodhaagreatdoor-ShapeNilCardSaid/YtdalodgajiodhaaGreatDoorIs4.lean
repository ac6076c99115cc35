/- What is proved: contracts of functions of this translation, walked; their plain meaning. No condition beyond those that each theorem names. -/
import Derived.Test.YtdalodgajiodhaaGreatDoorIs3
import Derived.Test.YtdalodgajiodhaaGreatDoorPh2
set_option linter.all false
namespace Go.Ac
open Go Go.Proofs
set_option maxRecDepth 10000
set_option maxHeartbeats 1000000
theorem frz2 {k : Nat} {g : GE} {h1 : List (Nat × GE)} (h : hg h1 k = some g) (hf : Frzable g) : ∀ p ∈ [(k, g)], hg h1 p.1 = some p.2 ∧ Frzable p.2 := by
  intro p hp; simp only [List.mem_singleton] at hp; subst hp; exact ⟨h, hf⟩
section
variable (W : World)
theorem same41 (x : Doc) (hx : okV x.v) : Pure Tryz.prog W 41 [docA x, docA x] (bA true) := by
  have h1 := mut_of_pure (by simp [cloL, encV_clo]) (equal67 W _ x.v x.v (Nat.lt_succ_self _) hx)
  rw [eqV_true] at h1
  have c1 : decide (x.ver = x.ver) = true := decide_eq_true rfl
  have c2 : decide (x.id = x.id) = true := decide_eq_true rfl
  exact pure_of_mut rfl (mut_of_sfun mixedz call41 rfl (p41_0 W true x x) Sn_z2)
theorem docA_clo (x : Doc) : (docA x).clo = true := by
  have := docs_clo [x]
  simpa [docsA, cloL] using this
theorem docs17 (A : List Doc) (hA : ∀ x ∈ A, okV x.v) (hl : A.length ≤ 2 ^ 40) : Pure Tryz.prog W 17 [.sl 7 (docsA A) [], .sl 7 (docsA A) []] (bA true) := by
  have hAl := docs_len A
  have loop : ∀ (k i : Nat), A.length - i = k → i ≤ A.length → LoopC Tryz.prog W [] (nslots Tryz.prog 17) (loopOf Tryz.prog 17 0) (S17 A A i) (.exit 0) E17 := by
    intro k
    induction k with
    | zero =>
      intro i hk hi
      have e : decide ((i : Int) < ((docsA A).length : Int)) = false := by rw [hAl]; exact decide_eq_false (by omega)
      exact loop_last (by simp) (body_of_sbodyK mixedz (b17_2 W A A i) Sn_z2 [] [] Sn_z1)
    | succ k ih =>
      intro i hk hi
      obtain ⟨x, hx⟩ := getOf (l := A) (i := i) (by omega)
      have e : decide ((i : Int) < ((docsA A).length : Int)) = true := by rw [hAl]; exact decide_eq_true (by omega)
      have hws : IntKind.i64.wrap ((i : Int) + 1) = ((i + 1 : Nat) : Int) := wrap_succ (by omega)
      have g1 := docs_at hx
      rw [Nat.zero_add] at g1
      have h1 := mut_of_pure (by simp [cloL, docA_clo]) (same41 W x (hA x (List.mem_of_getElem? hx)))
      have c1 : (!true) = false := rfl
      have nx := ih (i + 1) (by omega) (by omega)
      exact loop_next (body_of_sbodyK mixedz (b17_1 W A A i true x x) (by clear nx ih; exact Sn_z2) [] [] (σ3 := S17 A A (i + 1)) (by clear nx ih; exact Sn_z1)) nx
  have hlp := loop A.length 0 (by omega) (by omega)
  have c1 : (!decide (((docsA A).length : Int) = ((docsA A).length : Int))) = false := by simp
  exact pure_of_mut rfl (mut_of_sfun mixedz call17 rfl (p17_1 W A A) Sn_z2)
theorem large7 (v : JV) (hok : okV v) : ∃ g : Bool, Pure Tryz.prog W 7 [.sl 5 [encV v] []] (bA g) ∧ (g = false → cntV v ≤ 5000) := by
  have h1 := mut_of_pure (by simp [cloL, encV_clo, AV.clo, iA]) (parts W v 5000 hok (by omega) (by omega))
  have h2 := partsV_bd v 5000 hok (by omega)
  obtain ⟨h, l⟩ := v
  have hw : IntKind.i64.wrap (0 + partsV (.mk h l) 5000) = partsV (.mk h l) 5000 := by rw [Int.zero_add]; exact IntWalk.i64_in _ (by omega)
  refine ⟨_, pure_of_mut rfl (mut_of_sfun mixedz call7 rfl (p7_0 W (partsV (.mk h l) 5000) h l) Sn_z2), fun hg => ?_⟩
  rw [hw, decide_eq_false_iff_not] at hg
  have := parts_cnt (.mk h l) 5000 (by omega)
  omega
theorem many8 (D : List Doc) (hD : ∀ x ∈ D, okV x.v) (hl : D.length ≤ 2 ^ 41) : ∃ g : Bool, Pure Tryz.prog W 8 [.sl 7 (docsA D) []] (bA g) ∧ (g = false → D.length ≤ 150) := by
  have hDl := docs_len D
  have loop : ∀ (k i : Nat) (n : Int), D.length - i = k → i ≤ D.length → 0 ≤ n → n ≤ 2 ^ 55 → ∃ n', LoopC Tryz.prog W [] (nslots Tryz.prog 8) (loopOf Tryz.prog 8 0) (S8 D n i) (.exit 0) (E8 D n') := by
    intro k
    induction k with
    | zero =>
      intro i n hk hi h0 h1
      have e : decide ((i : Int) < ((docsA D).length : Int)) = false := by rw [hDl]; exact decide_eq_false (by omega)
      exact ⟨n, loop_last (by simp) (body_of_sbodyK mixedz (b8_2 W D i n) Sn_z2 [] [] Sn_z1)⟩
    | succ k ih =>
      intro i n hk hi h0 h1
      have e : decide ((i : Int) < ((docsA D).length : Int)) = true := by rw [hDl]; exact decide_eq_true (by omega)
      by_cases hn : n ≤ 5000
      case neg =>
        exact ⟨n, loop_last (by simp) (body_of_sbodyK mixedz (b8_1 W D i n) Sn_z2 [] [] Sn_z1)⟩
      obtain ⟨x, hx⟩ := getOf (l := D) (i := i) (by omega)
      have hxo := hD x (List.mem_of_getElem? hx)
      have hp := mut_of_pure (by simp [cloL, encV_clo, AV.clo, iA]) (parts W x.v 5000 hxo (by omega) (by omega))
      have h2 := partsV_bd x.v 5000 hxo (by omega)
      have hws : IntKind.i64.wrap ((i : Int) + 1) = ((i + 1 : Nat) : Int) := wrap_succ (by omega)
      have hws2 : IntKind.i64.wrap (n + partsV x.v 5000) = n + partsV x.v 5000 := IntWalk.i64_in _ (by omega)
      have g1 := docs_at hx
      rw [Nat.zero_add] at g1
      obtain ⟨n', nx⟩ := ih (i + 1) (n + partsV x.v 5000) (by omega) (by omega) (by omega) (by omega)
      exact ⟨n', loop_next (body_of_sbodyK mixedz (b8_0 W D i n (partsV x.v 5000) x) (by clear nx ih; exact Sn_z2) [] [] (σ3 := S8 D (n + partsV x.v 5000) (i + 1)) (by clear nx ih; exact Sn_z1)) nx⟩
  obtain ⟨n', hlp⟩ := loop D.length 0 0 (by omega) (by omega) (by omega) (by omega)
  by_cases h150 : 150 < D.length
  · have e : decide (150 < ((docsA D).length : Int)) = true := by rw [hDl]; exact decide_eq_true (by omega)
    exact ⟨true, pure_of_mut rfl (mut_of_sfun mixedz call8 rfl (p8_0 W D n') Sn_z2), fun h => by cases h⟩
  · have e : decide (150 < ((docsA D).length : Int)) = false := by rw [hDl]; exact decide_eq_false (by omega)
    exact ⟨_, pure_of_mut rfl (mut_of_sfun mixedz call8 rfl (p8_1 W D n') Sn_z2), fun _ => by omega⟩
theorem zero_le : LeL [.agg [iA 0, iA 0, .str [], .val (.slice none 0 0), .val (.slice none 0 0)], .agg [iA 0, iA 0, .str [], .val (.slice none 0 0), .val (.slice none 0 0)]] [encV (.mk ⟨0, 0, [], []⟩ []), encV (.mk ⟨0, 0, [], []⟩ [])] :=
  .cons (.agg (.cons (.refl _) (.cons (.refl _) (.cons (.refl _) (.cons (.nil 1) (.cons (.nil 5) .nil)))))) (.cons (.agg (.cons (.refl _) (.cons (.refl _) (.cons (.refl _) (.cons (.nil 1) (.cons (.nil 5) .nil)))))) .nil)
theorem shapeNil5 (v : JV) (D : List Doc) (hok : okV v) (hD : ∀ x ∈ D, okV x.v) (hl : D.length ≤ 2 ^ 41) : Pure Tryz.prog W 5 [encV v, .sl 7 (docsA D) []] (bA true) := by
  have h9 : MutC Tryz.prog W 9 [] [] (.ret (bA true) []) := mut_of_pure rfl (live9 W)
  obtain ⟨g, hg7, hcnt⟩ := large7 W v hok
  have h7 : MutC Tryz.prog W 7 [.gs 100001 0 1] [(100001, .arr 25 5 [encV v] .own)] (.ret (bA g) [(100001, .arr 25 5 [encV v] .own)]) := by
    refine mut_of_pureFlat (frz2 rfl (by simp [Frzable, cloL, encV_clo])) rfl (by simp [clL, clA, lk, cloL, AV.clo, encV_clo]) rfl ?_
    exact hg7
  have hc1 : cloL [encV v] = true := by simp [cloL, encV_clo]
  cases g with
  | true =>
    obtain ⟨h, l⟩ := v
    exact pure_of_mut rfl (mut_of_sfun mixedz call5 rfl (p5_0 W D true h l) Sn_z2)
  | false =>
  obtain ⟨g2, hg8, hlen⟩ := many8 W D hD hl
  have h8 : MutC Tryz.prog W 8 [.sl 7 (docsA D) []] [] (.ret (bA g2) []) := mut_of_pure (by simp [cloL, AV.clo, docs_clo]) hg8
  cases g2 with
  | true =>
    obtain ⟨h, l⟩ := v
    exact pure_of_mut rfl (mut_of_sfun mixedz call5 rfl (p5_1 W D false true h l) Sn_z2)
  | false =>
  have h150 := hlen rfl
  have hsl := sort_len (lt := idLt) D
  have hA : ∀ x ∈ sortS idLt D, okV x.v := fun x hx => hD x ((sort_mem D x).1 hx)
  have o15 : MutC Tryz.prog W 15 [nilP, .sl 7 (docsA D) []] [] (.ret (.sl 7 (docsA (sortS idLt D)) []) []) := mut_of_pure (by simp [cloL, AV.clo, docs_clo, nilP]) (order15 W D (by omega))
  have o16 : MutC Tryz.prog W 16 [nilS, .sl 7 (docsA D) []] [] (.ret (.sl 7 (docsA (sortS idLt D)) []) []) := mut_of_pure (by simp [cloL, AV.clo, docs_clo, nilS]) (order16 W D (by omega))
  have o17 : MutC Tryz.prog W 17 [.sl 7 (docsA (sortS idLt D)) [], .sl 7 (docsA (sortS idLt D)) []] [] (.ret (bA true) []) := mut_of_pure (by simp [cloL, AV.clo, docs_clo]) (docs17 W _ hA (by omega))
  have e1 := mut_of_pure (by simp [cloL, encV_clo]) (equal67 W _ v v (Nat.lt_succ_self _) hok)
  rw [eqV_true] at e1
  have z0 : okV (.mk ⟨0, 0, [], []⟩ []) := okV_cnt _ (by simp [cntV, cntVs])
  have e0 := equal67 W _ (.mk ⟨0, 0, [], []⟩ []) (.mk ⟨0, 0, [], []⟩ []) (Nat.lt_succ_self _) z0
  rw [eqV_true] at e0
  have e2 := mut_of_pure (by rfl) (pure_le zero_le e0)
  generalize sortS idLt D = A at *
  obtain ⟨h, l⟩ := v
  exact pure_of_mut rfl (mut_of_sfun mixedz call5 rfl (p5_2 W D A false false h l) Sn_z2)
end
end Go.Ac

