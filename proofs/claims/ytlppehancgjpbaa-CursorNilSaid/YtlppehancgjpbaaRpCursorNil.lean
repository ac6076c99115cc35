/- What is proved: the row of CursorNil: a nil cursor tells nothing and is done: the law returns true for every input. No condition beyond the row's own. -/
import Derived.Test.YtlppehancgjpbaaRdTry
import Derived.Test.YtlppehancgjpbaaVc1
import Derived.SizedLaws
set_option linter.all false
set_option maxRecDepth 100000
set_option maxHeartbeats 20000000
namespace Go.Proofs.Ytlppehancgjpbaa
open Go Go.Ac Go.RowKit Go.ChangeShapes Go.WideShapes Go.ChangeAt

theorem contract4 (H : Type) (enc : TypeId × Value → H) (W : World) (base : Nat) (args : Array Value) (ds gs : List (DataW H)) (before : List MemPlace)
    (hval : ∀ (j : Nat) t v, Try.f4.params[j]? = some t → args[j]? = some v → Value.okWide Try.prog W .any base t v)
    (hW : DataW.Whole enc Try.prog Try.f4.params.toList Rows.cursorNilSpec.vars false W args.toList ds gs before)
    (hz : (DataW.weightsEach Try.prog (Try.f4.params.toList ++ []) (ds ++ gs)).all (· ≤ reachBytes) = true) :
    Calls Try.prog 4 args W fun e W' => ∃ v, e = .returned v ∧ Rows.cursorNilSpec.post enc Try.prog Try.f4 false true false false W args v W' := by
  obtain ⟨p, q, hA, hV, hp, hfz, hnd⟩ := id hW
  rw [Try.params4] at hA hval hz
  obtain ⟨v0, d0, rfl, rfl, h0⟩ := trodAll_one hA
  obtain ⟨rfl, rfl⟩ := trodVars_none hV
  have hv0 := hval 0 25 v0 rfl rfl
  obtain ⟨a, ⟨els, rfl, hc⟩, hR0⟩ := arg_one (fun n => rd_items n) (by rintro a ⟨p, rfl, _⟩; rfl) (by rintro cs rfl; simp only [Value.okWide, Try.underlying25, Cell.okWide, Cell.ok] at hv0) h0 (wEach_mem hz 0 25 d0 rfl rfl)
  refine post_law hW rfl (by kernel_rfl) (fun t ht => ?_) ⟨rfl, rfl, rfl⟩ (cursorNil4 W els hc) fun β D => .cons (hR0 β D) (.nil _)
  rw [Try.params4] at ht
  have : t = 25 := by simpa using ht
  rcases this with rfl <;> exact ⟨by kernel_rfl, of_decide_eq_true (by kernel_rfl)⟩

theorem lifted4 (os : Os) (started : os.Started) (H : Type) (enc : TypeId × Value → H) :
    ReturnsInHanded {} Try.checked os 4 .any (Rows.cursorNilSpec.pre6 enc Try.prog Try.f4 Rows.cursorNilRow.domain false) (Rows.cursorNilSpec.post enc Try.prog Try.f4 false true false false) := by
  refine returnsInHanded_of_change_sized (C := Try.checked) own started (by kernel_rfl) Try.func4
    (ChangeSpec.witness6 (enc := enc) (C := Try.checked) false ⟨#[], #[.slice none 0 0], []⟩ 8 (by kernel_rfl) (by kernel_rfl) (by kernel_rfl) (by kernel_rfl)) ?_
  intro W base args ds gs before hval hW _ hz _
  exact contract4 H enc W base args ds gs before hval hW hz

/-- CursorNil. -/
theorem cursorNil_holds : Rows.CursorNilSaid :=
  OpenClaim.holds_of_wide 4 Try.f4 rfl rfl rfl rfl rfl rfl rfl ⟨rfl, rfl, rfl, rfl, rfl⟩ rfl rfl rfl rfl rfl (by kernel_rfl) Try.func4 (by kernel_rfl)
    (of_decide_eq_true (by kernel_rfl)) (by unfold Func.isWrapper; first | (rw [if_pos (by decide +kernel)]; kernel_rfl) | (rw [if_neg (by decide +kernel)]; exact ⟨rfl, rfl⟩))
    (fun os started H enc _ => lifted4 os started H enc)
#print axioms cursorNil_holds
end Go.Proofs.Ytlppehancgjpbaa

