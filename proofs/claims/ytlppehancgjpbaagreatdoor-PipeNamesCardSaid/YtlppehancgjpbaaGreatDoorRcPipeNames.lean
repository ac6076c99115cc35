/- What is proved: the row of PipeNames, and its card: the limits and errors have the document's numbers: the law, which has no arguments, returns true. No condition beyond the row's own. -/
import Derived.Test.YtlppehancgjpbaaGreatDoorRbTryz
set_option linter.all false
set_option maxRecDepth 100000
set_option maxHeartbeats 20000000
namespace Go.Proofs.YtlppehancgjpbaaGreatDoor
open Go Go.Ac Go.RowKit Go.ChangeShapes Go.WideShapes Go.ChangeAt

theorem call8 : callable Tryz.prog 8 = true := by kernel_rfl
theorem reckoned8 : xfun Tryz.prog 1000 30 8 [] [] 100000 = some (.ret (.val (.bool true)) []) := by kernel_rfl

theorem laid_met8 (os : Os) (args : Array Value) : laidMetH Tryz.prog Rows.pipeNamesRow.laid ((startW os).forCall (fun _ _ => 0) ⟨#[], args, []⟩).memory :=
  laidMet_of_run' 8 (by kernel_rfl) (by kernel_rfl)

theorem contract8 (H : Type) (enc : TypeId × Value → H) (W : World) (args : Array Value) (ds gs : List (DataW H)) (before : List MemPlace)
    (hW : DataW.Whole enc Tryz.prog Tryz.f8.params.toList Rows.pipeNamesSpec.vars false W args.toList ds gs before) :
    Calls Tryz.prog 8 args W fun e W' => ∃ v, e = .returned v ∧ Rows.pipeNamesSpec.post enc Tryz.prog Tryz.f8 false true false false W args v W' := by
  have hW' := hW
  obtain ⟨p, q, hA, hV, hp, hfz, hnd⟩ := id hW'
  rw [Tryz.params8] at hA
  obtain ⟨rfl, rfl⟩ := trodVars_none hV
  have hds : args.toList = [] ∧ ds = [] := by
    generalize args.toList = l at hA
    cases l with
    | nil => cases ds with
      | nil => exact ⟨rfl, rfl⟩
      | cons d ds => exact hA.elim
    | cons v l => cases ds <;> exact hA.elim
  obtain ⟨e1, rfl⟩ := hds
  refine post_law (xs := []) hW' rfl (by kernel_rfl) (fun t ht => ?_) ⟨rfl, rfl, rfl⟩ (pure_of_xfun mixed call8 rfl rfl reckoned8) fun β D => ?_
  · rw [Tryz.params8] at ht; simp at ht
  · rw [e1]; exact .nil _

theorem reads8 (os : Os) (H : Type) (enc : TypeId × Value → H) : DataW.whole enc Tryz.prog ((startW os).forCall (fun _ _ => 0) ⟨#[], #[], []⟩).memory Tryz.f8.params.toList Rows.pipeNamesSpec.vars false
    (#[] : Array Value).toList 8 = some ([], [], []) := by kernel_rfl

theorem lifted8 (os : Os) (started : os.Started) (H : Type) (enc : TypeId × Value → H) (F : Stop.Interp) :
    ReturnsInHanded {} Tryz.checked os 8 .any ((OpenSpec.ofChange Rows.pipeNamesSpec).preRow enc Tryz.prog Tryz.f8 Rows.pipeNamesRow.domain false Rows.pipeNamesRow.laid) (((OpenSpec.ofChange Rows.pipeNamesSpec).at F).post enc Tryz.prog Tryz.f8 false true false false) := by
  refine returnsInHanded_of_row (C := Tryz.checked) (s := OpenSpec.ofChange Rows.pipeNamesSpec) own started (by kernel_rfl) Tryz.func8
    (witness_row_atRef (enc := enc) (C := Tryz.checked) false (startW os) #[] rfl (by kernel_rfl) (by kernel_rfl) (by kernel_rfl)
      (OpenSpec.preRow_of_cond 8 (reads8 os H enc) (by kernel_rfl) (fun k hk => by cases hk) (by kernel_rfl) (laid_met8 os _))) ?_
  intro W base args ds gs before hval hW _ _ hz _ _ _
  exact contract8 H enc W args ds gs before hW

theorem closed8 : joinedFacts Tryz.pinned.checked.prog 8 Tryz.f8 (OpenSpec.ofChange Rows.pipeNamesSpec).bare Rows.pipeNamesRow = true := by
  unfold joinedFacts
  exact (and2 (and2 (and2 (and2 (and2 (and2 (and2 (and2 (and2 (and2 (and2 (and2 (and2 (and2 (and2 (and2 (and2 (and2 (and2 (and2 (and2 (and2 (and2 (and2 (and2 (and2 (and2 (and2 (and2 (and2 (and2 (by as_aux_lemma => kernel_rfl) (by as_aux_lemma => kernel_rfl)) (by as_aux_lemma => kernel_rfl)) (by as_aux_lemma => kernel_rfl)) (by as_aux_lemma => kernel_rfl)) (by as_aux_lemma => kernel_rfl)) (by as_aux_lemma => kernel_rfl)) (by as_aux_lemma => kernel_rfl)) (by as_aux_lemma => kernel_rfl)) (by as_aux_lemma => kernel_rfl)) (by as_aux_lemma => kernel_rfl)) (by as_aux_lemma => kernel_rfl)) (by as_aux_lemma => kernel_rfl)) (by as_aux_lemma => kernel_rfl)) (by as_aux_lemma => kernel_rfl)) (by as_aux_lemma => kernel_rfl)) (by as_aux_lemma => kernel_rfl)) (by as_aux_lemma => kernel_rfl)) (by as_aux_lemma => kernel_rfl)) (by as_aux_lemma => kernel_rfl)) (by as_aux_lemma => kernel_rfl)) (by as_aux_lemma => kernel_rfl)) (by as_aux_lemma => kernel_rfl)) (by as_aux_lemma => kernel_rfl)) (by as_aux_lemma => kernel_rfl)) (by as_aux_lemma => kernel_rfl)) (by as_aux_lemma => kernel_rfl)) (by as_aux_lemma => kernel_rfl)) (by as_aux_lemma => kernel_rfl)) (by as_aux_lemma => kernel_rfl)) (by as_aux_lemma => kernel_rfl)) (by as_aux_lemma => kernel_rfl))

theorem said8 : Rows.PipeNamesSaid :=
  OpenClaim.holds_of_cond 8 Tryz.f8 rfl rfl rfl rfl rfl rfl rfl ⟨rfl, rfl, rfl, rfl, rfl⟩ rfl rfl rfl rfl rfl (by kernel_rfl) Tryz.func8 closed8
    (of_decide_eq_true (by kernel_rfl)) (by unfold Func.isWrapper; first | (rw [if_pos (by decide +kernel)]; kernel_rfl) | (rw [if_neg (by decide +kernel)]; exact ⟨rfl, rfl⟩))
    (fun os started H enc _ F => by rw [OpenClaim.pre_eq_preRow]; exact lifted8 os started H enc F)

theorem plain8 (f : FuncId) (fn : Func) (hf : Tryz.pinned.checked.prog.funcNamed "docket/docketlaw07.PipeNames" = some f) (hfn : Tryz.pinned.checked.prog.funcs[f]? = some fn) :
    true = Tryz.pinned.checked.prog.looks [] ∧ ∀ (j : Nat) t, fn.params[j]? = some t → Tryz.pinned.checked.prog.wantsStandIn t = false := by
  obtain rfl : f = 8 := Option.some.inj ((show Tryz.prog.funcNamed "docket/docketlaw07.PipeNames" = some 8 by kernel_rfl).symm.trans hf) |>.symm
  obtain rfl : fn = Tryz.f8 := (Option.some.inj (Tryz.func8.symm.trans hfn)).symm
  refine ⟨by kernel_rfl, fun j t ht => ?_⟩
  rw [Tryz.params8] at ht
  simp at ht

theorem wf8 : OpenClaim.wfByText (OpenSpec.ofChange Rows.pipeNamesSpec) Rows.pipeNamesRow = true := by kernel_rfl
theorem main8 : Tryz.pinned.checked.prog.mainIs = some (Rows.pipeNamesCard.stood.harness.1, Rows.pipeNamesCard.stood.harness.2.toList) := by kernel_rfl
theorem goes8 : false = Rows.pipeNamesRow.goesBy Tryz.pinned.checked.prog := by kernel_rfl

/-- PipeNames, the card. -/
theorem pipeNames_holds : Rows.PipeNamesCardSaid :=
  Claim7.holds_tied_plain_at .later [] _ _ _ _ said8 (fun _ h => by cases h) wf8 (fun _ h => by cases h) pipeNames_row_tie rfl ⟨rfl, rfl⟩ main8 rfl plain8 goes8
#print axioms pipeNames_holds
end Go.Proofs.YtlppehancgjpbaaGreatDoor

