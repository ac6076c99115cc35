/- What is proved: contracts of functions of this translation, walked; their plain meaning. No condition beyond those that each theorem names. -/
import Derived.Test.YteacgfebjekllaaGreatDoorMb1
import Derived.Test.YteacgfebjekllaaGreatDoorRbTryz
set_option linter.all false
set_option maxRecDepth 100000
namespace Go.Proofs.YteacgfebjekllaaGreatDoor
open Go Go.Ac Go.RowKit Go.ChangeShapes Go.WideShapes Go.ChangeAt
theorem Tryz.rt:(Tryz.prog.cutTypes.find? (·.1 == "internal/reflectlite.rtype")).map (·.2)=some 113:=kr
theorem Tryz.oneRow:((List.range Tryz.prog.types.size).filter fun t=>Tryz.prog.rowNamed t [101,114,114,111,114])=[52]:=kr
theorem Tryz.et:Tryz.prog.globalNamed "errors.errorType"=some 0:=kr
theorem errT_of_handles {W:World} (h':handlesMet Tryz.prog [("errors.errorType",Rows.laid_errors_errorType)] W):ErrT W:=by
 obtain ⟨name,u,ty,e1,e2,e3,e4,e5⟩:=h' _ (List.mem_singleton.2 rfl)
 have en:name=[101,114,114,111,114]:=(Option.some.inj e1).symm
 subst en
 obtain rfl:=Option.some.inj (Tryz.rt.symm.trans e2)
 have hm:ty ∈ (List.range Tryz.prog.types.size).filter fun t=>Tryz.prog.rowNamed t [101,114,114,111,114]:=List.mem_filter.2 ⟨List.mem_range.2 e3,e4⟩
 rw [Tryz.oneRow] at hm
 obtain rfl:=List.mem_singleton.1 hm
 have hh:typeHandle Tryz.prog 52=.pointer (some ⟨9,52,none⟩):=kr
 rw [hh] at e5
 unfold ErrT
 simpa using World.var?_cell Tryz.et e5 0
theorem errT_of_laid {W:World} (h:laidMetH Tryz.prog Rows.requestNamesRow.laid W):ErrT W:=by
 have h':laidMet Tryz.prog (Rows.requestNamesRow.laid.filter fun x=>x.2.handleName?.isNone) W/\handlesMet Tryz.prog [("errors.errorType",Rows.laid_errors_errorType)] W:=h
 exact errT_of_handles h'.2
noncomputable def startH (os:Os):World :=
 {startW os with heap:=(startW os).heap.modify 0 fun
  | .cells _ t frozen=>.cells #[.iface 113 (.agg #[.pointer (some ⟨9,52,none⟩)])] t frozen
  | o=>o}
end Go.Proofs.YteacgfebjekllaaGreatDoor

