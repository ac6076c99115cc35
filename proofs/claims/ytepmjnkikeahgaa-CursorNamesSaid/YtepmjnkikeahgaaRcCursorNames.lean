/- What is proved: the row of CursorNames: the limits and errors have the document's numbers: the law, which has no arguments, returns true. No condition beyond the row's own. -/
import Derived.Test.YtepmjnkikeahgaaRbTry
set_option linter.all false
set_option maxRecDepth 100000
namespace Go.Proofs.Ytepmjnkikeahgaa
open Go Go.Ac Go.RowKit Go.ChangeShapes Go.WideShapes Go.ChangeAt

theorem call3 : callable Try.prog 3 = true := by kernel_rfl
theorem reckoned3 : xfun Try.prog 1000 30 3 [] [] 100000 = some (.val (.bool true), []) := by kernel_rfl

theorem lifted3 (os : Os) (started : os.Started) (H : Type) (enc : TypeId × Value → H) :
    ReturnsInHanded {} Try.checked os 3 .any (Rows.cursorNamesSpec.pre6 enc Try.prog Try.f3 Rows.cursorNamesRow.domain false) (Rows.cursorNamesSpec.post enc Try.prog Try.f3 false true false false) := by
  refine returnsInHanded_of_change (C := Try.checked) own started (by kernel_rfl) Try.func3
    (ChangeSpec.witness6 (enc := enc) (C := Try.checked) false ⟨#[], #[], []⟩ 8 (by kernel_rfl) (by kernel_rfl) (by kernel_rfl) (by kernel_rfl)) ?_
  intro W base args ds gs before hval0 hW hcnd _
  have hW' : DataW.Whole enc Try.prog Try.f3.params.toList Rows.cursorNamesSpec.vars false W args.toList ds gs before := hW
  obtain ⟨p, q, hA, hV, hp, hfz, hnd⟩ := id hW'
  rw [Try.params3] at hA
  have hds : args.toList = [] ∧ ds = [] := by
    generalize args.toList = l at hA
    cases l with
    | nil => cases ds with
      | nil => exact ⟨rfl, rfl⟩
      | cons d ds => exact hA.elim
    | cons v l => cases ds <;> exact hA.elim
  obtain ⟨e1, rfl⟩ := hds
  refine post_law (xs := []) hW' rfl (by kernel_rfl) (fun t ht => ?_) ⟨rfl, rfl, rfl⟩ (pure_of_xfun mixed call3 rfl rfl reckoned3) fun β D => ?_
  · rw [Try.params3] at ht; simp at ht
  · rw [e1]; exact .nil _

/-- CursorNames. -/
theorem cursorNames_holds : Rows.CursorNamesSaid :=
  OpenClaim.holds_of_wide 3 Try.f3 rfl rfl rfl rfl rfl rfl rfl ⟨rfl, rfl, rfl, rfl, rfl⟩ rfl rfl rfl rfl rfl (by kernel_rfl) Try.func3 (by kernel_rfl)
    (of_decide_eq_true (by kernel_rfl)) (by unfold Func.isWrapper; first | (rw [if_pos (by decide +kernel)]; kernel_rfl) | (rw [if_neg (by decide +kernel)]; exact ⟨rfl, rfl⟩))
    (fun os started H enc _ => lifted3 os started H enc)
#print axioms cursorNames_holds
end Go.Proofs.Ytepmjnkikeahgaa

