/- What is proved: contracts of functions of this translation, walked; their plain meaning. No condition beyond those that each theorem names. -/
import Derived.Test.YtdalodgajiodhaaGreatDoorIs3
import Derived.Test.YtdalodgajiodhaaGreatDoorPh2
set_option linter.all false
namespace Go.Ac
open Go Go.Proofs
set_option maxRecDepth 10000
set_option maxHeartbeats 1000000
section
variable (W : World)
theorem same41 (x : Doc) (hx : okV x.v) : Pure Tryz.prog W 41 [docA x, docA x] (bA true) := by
  have h1 := mut_of_pure (by simp [cloL, encV_clo]) (equal67 W _ x.v x.v (Nat.lt_succ_self _) hx)
  rw [eqV_true] at h1
  have c1 : decide (x.ver = x.ver) = true := decide_eq_true rfl
  have c2 : decide (x.id = x.id) = true := decide_eq_true rfl
  exact pure_of_mut rfl (mut_of_sfun mixedz call41 rfl (p41_0 W true x x) Sn_z2)
theorem docA_clo (x : Doc) : (docA x).clo = true := by
  have := docs_clo [x]
  simpa [docsA, cloL] using this
theorem docs17 (A : List Doc) (hA : ∀ x ∈ A, okV x.v) (hl : A.length ≤ 2 ^ 40) : Pure Tryz.prog W 17 [.sl 7 (docsA A) [], .sl 7 (docsA A) []] (bA true) := by
  have hAl := docs_len A
  have loop : ∀ (k i : Nat), A.length - i = k → i ≤ A.length → LoopC Tryz.prog W [] (nslots Tryz.prog 17) (loopOf Tryz.prog 17 0) (S17 A A i) (.exit 0) E17 := by
    intro k
    induction k with
    | zero =>
      intro i hk hi
      have e : decide ((i : Int) < ((docsA A).length : Int)) = false := by rw [hAl]; exact decide_eq_false (by omega)
      exact loop_last (by simp) (body_of_sbodyK mixedz (b17_2 W A A i) Sn_z2 [] [] Sn_z1)
    | succ k ih =>
      intro i hk hi
      obtain ⟨x, hx⟩ := getOf (l := A) (i := i) (by omega)
      have e : decide ((i : Int) < ((docsA A).length : Int)) = true := by rw [hAl]; exact decide_eq_true (by omega)
      have hws : IntKind.i64.wrap ((i : Int) + 1) = ((i + 1 : Nat) : Int) := wrap_succ (by omega)
      have g1 := docs_at hx
      rw [Nat.zero_add] at g1
      have h1 := mut_of_pure (by simp [cloL, docA_clo]) (same41 W x (hA x (List.mem_of_getElem? hx)))
      have c1 : (!true) = false := rfl
      have nx := ih (i + 1) (by omega) (by omega)
      exact loop_next (body_of_sbodyK mixedz (b17_1 W A A i true x x) (by clear nx ih; exact Sn_z2) [] [] (σ3 := S17 A A (i + 1)) (by clear nx ih; exact Sn_z1)) nx
  have hlp := loop A.length 0 (by omega) (by omega)
  have c1 : (!decide (((docsA A).length : Int) = ((docsA A).length : Int))) = false := by simp
  exact pure_of_mut rfl (mut_of_sfun mixedz call17 rfl (p17_1 W A A) Sn_z2)
theorem zero_le : LeL [.agg [iA 0, iA 0, .str [], .val (.slice none 0 0), .val (.slice none 0 0)], .agg [iA 0, iA 0, .str [], .val (.slice none 0 0), .val (.slice none 0 0)]] [encV (.mk ⟨0, 0, [], []⟩ []), encV (.mk ⟨0, 0, [], []⟩ [])] :=
  .cons (.agg (.cons (.refl _) (.cons (.refl _) (.cons (.refl _) (.cons (.nil 1) (.cons (.nil 5) .nil)))))) (.cons (.agg (.cons (.refl _) (.cons (.refl _) (.cons (.refl _) (.cons (.nil 1) (.cons (.nil 5) .nil)))))) .nil)
end
end Go.Ac

