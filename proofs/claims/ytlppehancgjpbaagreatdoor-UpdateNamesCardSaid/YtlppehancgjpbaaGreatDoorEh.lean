/- What is proved: what the laid condition gives of errors' own variable; a start that meets it. No condition. -/
import Derived.Test.YtlppehancgjpbaaGreatDoorEe2
import Derived.Test.YtlppehancgjpbaaGreatDoorRbTryz
set_option linter.all false
set_option maxRecDepth 100000
namespace Go.Proofs.YtlppehancgjpbaaGreatDoor
open Go Go.Ac Go.RowKit Go.ChangeShapes Go.WideShapes Go.ChangeAt

theorem Tryz.rt : (Tryz.prog.cutTypes.find? (·.1 == "internal/reflectlite.rtype")).map (·.2) = some 278 := by kernel_rfl
theorem Tryz.oneRow : ((List.range Tryz.prog.types.size).filter fun t => Tryz.prog.rowNamed t [101, 114, 114, 111, 114]) = [107] := by kernel_rfl
theorem Tryz.et : Tryz.prog.globalNamed "errors.errorType" = some 0 := by kernel_rfl

theorem errT_of_handles {W : World} (h' : handlesMet Tryz.prog [("errors.errorType", Rows.laid_errors_errorType)] W) : ErrT W := by
  obtain ⟨name, u, ty, e1, e2, e3, e4, e5⟩ := h' _ (List.mem_singleton.2 rfl)
  have en : name = [101, 114, 114, 111, 114] := (Option.some.inj e1).symm
  subst en
  obtain rfl := Option.some.inj (Tryz.rt.symm.trans e2)
  have hm : ty ∈ (List.range Tryz.prog.types.size).filter fun t => Tryz.prog.rowNamed t [101, 114, 114, 111, 114] := List.mem_filter.2 ⟨List.mem_range.2 e3, e4⟩
  rw [Tryz.oneRow] at hm
  obtain rfl := List.mem_singleton.1 hm
  have hh : typeHandle Tryz.prog 107 = .pointer (some ⟨9, 107, none⟩) := by kernel_rfl
  rw [hh] at e5
  unfold ErrT
  simpa using World.var?_cell Tryz.et e5 0

theorem errT_of_laid {W : World} (h : laidMetH Tryz.prog Rows.updateNilRow.laid W) : ErrT W := by
  have h' : laidMet Tryz.prog (Rows.updateNilRow.laid.filter fun x => x.2.handleName?.isNone) W ∧ handlesMet Tryz.prog [("errors.errorType", Rows.laid_errors_errorType)] W := h
  exact errT_of_handles h'.2

noncomputable def startH (os : Os) : World :=
  { startW os with heap := (startW os).heap.modify 0 fun
      | .cells _ t frozen => .cells #[.iface 278 (.agg #[.pointer (some ⟨9, 107, none⟩)])] t frozen
      | o => o }

theorem laid_metH (os : Os) (args : Array Value) : laidMetH Tryz.prog Rows.updateNilRow.laid ((startH os).forCall (fun _ _ => 0) ⟨#[], args, []⟩).memory :=
  laidMetH_of_parts (laidMet_of_run' 8 (by kernel_rfl) (by kernel_rfl)) (by kernel_rfl)
end Go.Proofs.YtlppehancgjpbaaGreatDoor

