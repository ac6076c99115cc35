/- What is proved: contracts of functions of this translation, walked; their plain meaning. No condition beyond those that each theorem names. -/
import Derived.Test.YteacgfebjekllaaGreatDoorMb1
import Derived.Test.YteacgfebjekllaaGreatDoorMb2
import Derived.Test.YteacgfebjekllaaGreatDoorEhN
set_option linter.all false
set_option maxRecDepth 100000
set_option maxHeartbeats 20000000
namespace Go.Proofs.YteacgfebjekllaaGreatDoor
open Go Go.Ac Go.RowKit Go.ChangeShapes Go.WideShapes Go.ChangeAt
theorem laid_met3 (os : Os) (args : Array Value) : laidMetH Tryz.prog Rows.requestNamesRow.laid ((startH os).forCall (fun _ _ => 0) ⟨#[], args, []⟩).memory :=
  laidMetH_of_parts (laidMet_of_run' 8 (by kernel_rfl) (by kernel_rfl)) (by kernel_rfl)
theorem contract3 (H : Type) (enc : TypeId × Value → H) (W : World) (base : Nat) (args : Array Value) (ds gs : List (DataW H)) (before : List MemPlace)
    (hval : ∀ (j : Nat) t v, Tryz.f3.params[j]? = some t → args[j]? = some v → Value.okWide Tryz.prog W .any base t v)
    (hW : DataW.Whole enc Tryz.prog Tryz.f3.params.toList Rows.requestNamesSpec.vars false W args.toList ds gs before)
    (hz : (DataW.weightsEach Tryz.prog (Tryz.f3.params.toList ++ []) (ds ++ gs)).all (· ≤ reachBytes) = true)
    (hL : laidMetH Tryz.prog Rows.requestNamesRow.laid W) :
    Calls Tryz.prog 3 args W fun e W' => ∃ v, e = .returned v ∧ Rows.requestNamesSpec.post enc Tryz.prog Tryz.f3 false true false false W args v W' := by
  obtain ⟨p, q, hA, hV, hp, hfz, hnd⟩ := id hW
  rw [Tryz.params3] at hA hval hz
  obtain ⟨rfl, rfl⟩ := trodVars_none hV
  have hds : args.toList = [] ∧ ds = [] := by
    generalize args.toList = l at hA
    cases l with
    | nil => cases ds with
      | nil => exact ⟨rfl, rfl⟩
      | cons d ds => exact hA.elim
    | cons v l => cases ds <;> exact hA.elim
  obtain ⟨e1, rfl⟩ := hds
  refine post_law hW rfl (by kernel_rfl) (fun t ht => ?_) ⟨rfl, rfl, rfl⟩ (pure_of_mut rfl (names3 W (live7 W (errT_of_laid hL)))) fun β D => (by rw [e1]; exact .nil _)
  rw [Tryz.params3] at ht
  simp at ht
theorem reads3 (os : Os) (H : Type) (enc : TypeId × Value → H) : DataW.whole enc Tryz.prog ((startH os).forCall (fun _ _ => 0) ⟨#[], #[], []⟩).memory Tryz.f3.params.toList Rows.requestNamesSpec.vars false
    (#[] : Array Value).toList 8 = some ([], [], []) := by kernel_rfl
theorem lifted3 (os : Os) (started : os.Started) (H : Type) (enc : TypeId × Value → H) (F : Stop.Interp) :
    ReturnsInHanded {} Tryz.checked os 3 .any ((OpenSpec.ofChange Rows.requestNamesSpec).preRow enc Tryz.prog Tryz.f3 Rows.requestNamesRow.domain false Rows.requestNamesRow.laid) (((OpenSpec.ofChange Rows.requestNamesSpec).at F).post enc Tryz.prog Tryz.f3 false true false false) := by
  refine returnsInHanded_of_row (C := Tryz.checked) (s := OpenSpec.ofChange Rows.requestNamesSpec) own started (by kernel_rfl) Tryz.func3
    (witness_row_atRef (enc := enc) (C := Tryz.checked) false (startH os) #[] rfl (by kernel_rfl) (by kernel_rfl) (by kernel_rfl)
      (OpenSpec.preRow_of_cond 8 (reads3 os H enc) (by kernel_rfl) (fun k hk => by cases hk) (by kernel_rfl) (laid_met3 os _))) ?_
  intro W base args ds gs before hval hW _ _ hz hL _ _
  exact contract3 H enc W base args ds gs before hval hW hz hL
theorem closed3 : joinedFacts Tryz.pinned.checked.prog 3 Tryz.f3 (OpenSpec.ofChange Rows.requestNamesSpec).bare Rows.requestNamesRow = true := by
  unfold joinedFacts
  exact (and2 (and2 (and2 (and2 (and2 (and2 (and2 (and2 (and2 (and2 (and2 (and2 (and2 (and2 (and2 (and2 (and2 (and2 (and2 (and2 (and2 (and2 (and2 (and2 (and2 (and2 (and2 (and2 (and2 (and2 (and2 (by as_aux_lemma => kernel_rfl) (by as_aux_lemma => kernel_rfl)) (by as_aux_lemma => kernel_rfl)) (by as_aux_lemma => kernel_rfl)) (by as_aux_lemma => kernel_rfl)) (by as_aux_lemma => kernel_rfl)) (by as_aux_lemma => kernel_rfl)) (by as_aux_lemma => kernel_rfl)) (by as_aux_lemma => kernel_rfl)) (by as_aux_lemma => kernel_rfl)) (by as_aux_lemma => kernel_rfl)) (by as_aux_lemma => kernel_rfl)) (by as_aux_lemma => kernel_rfl)) (by as_aux_lemma => kernel_rfl)) (by as_aux_lemma => kernel_rfl)) (by as_aux_lemma => kernel_rfl)) (by as_aux_lemma => kernel_rfl)) (by as_aux_lemma => kernel_rfl)) (by as_aux_lemma => kernel_rfl)) (by as_aux_lemma => kernel_rfl)) (by as_aux_lemma => kernel_rfl)) (by as_aux_lemma => kernel_rfl)) (by as_aux_lemma => kernel_rfl)) (by as_aux_lemma => kernel_rfl)) (by as_aux_lemma => kernel_rfl)) (by as_aux_lemma => kernel_rfl)) (by as_aux_lemma => kernel_rfl)) (by as_aux_lemma => kernel_rfl)) (by as_aux_lemma => kernel_rfl)) (by as_aux_lemma => kernel_rfl)) (by as_aux_lemma => kernel_rfl)) (by as_aux_lemma => kernel_rfl))
theorem said3 : Rows.RequestNamesSaid :=
  OpenClaim.holds_of_cond 3 Tryz.f3 rfl rfl rfl rfl rfl rfl rfl ⟨rfl, rfl, rfl, rfl, rfl⟩ rfl rfl rfl rfl rfl (by kernel_rfl) Tryz.func3 closed3
    (of_decide_eq_true (by kernel_rfl)) (by unfold Func.isWrapper; first | (rw [if_pos (by decide +kernel)]; kernel_rfl) | (rw [if_neg (by decide +kernel)]; exact ⟨rfl, rfl⟩))
    (fun os started H enc _ F => by rw [OpenClaim.pre_eq_preRow]; exact lifted3 os started H enc F)
theorem plain3 (f : FuncId) (fn : Func) (hf : Tryz.pinned.checked.prog.funcNamed "docket/docketlaw16.RequestNames" = some f) (hfn : Tryz.pinned.checked.prog.funcs[f]? = some fn) :
    true = Tryz.pinned.checked.prog.looks [] ∧ ∀ (j : Nat) t, fn.params[j]? = some t → Tryz.pinned.checked.prog.wantsStandIn t = false := by
  obtain rfl : f = 3 := Option.some.inj ((show Tryz.prog.funcNamed "docket/docketlaw16.RequestNames" = some 3 by kernel_rfl).symm.trans hf) |>.symm
  obtain rfl : fn = Tryz.f3 := (Option.some.inj (Tryz.func3.symm.trans hfn)).symm
  refine ⟨by kernel_rfl, fun j t ht => ?_⟩
  rw [Tryz.params3] at ht
  simp at ht
theorem wf3 : OpenClaim.wfByText (OpenSpec.ofChange Rows.requestNamesSpec) Rows.requestNamesRow = true := by kernel_rfl
theorem main3 : Tryz.pinned.checked.prog.mainIs = some (Rows.requestNamesCard.stood.harness.1, Rows.requestNamesCard.stood.harness.2.toList) := by kernel_rfl
theorem goes_none {P : Program} (h : P.funcs.any Func.goes = false) (f : FuncId) : P.goes f = false := by
  have h1 : ((P.closure f).any fun g => (P.funcs[g]?).any Func.goes) = false := by
    rw [List.any_eq_false]
    intro g _
    cases hh : P.funcs[g]? with
    | none => simp
    | some fn =>
      obtain ⟨hlt, he⟩ := Array.getElem?_eq_some_iff.1 hh
      have := Array.any_eq_false.1 h g hlt
      rw [he] at this
      simpa using this
  unfold Program.goes
  rw [h1, h]
  simp
theorem goesBy_none {P : Program} (c : OpenClaim) (h : P.funcs.any Func.goes = false) : false = c.goesBy P := by
  have hf : P.goes = fun _ => false := funext fun f => goes_none h f
  unfold OpenClaim.goesBy Program.goesAt Program.goesFrom
  rw [hf]
  cases P.funcNamed c.func <;> cases c.start <;> simp
theorem noGoes : Tryz.prog.funcs.any Func.goes = false := by kernel_rfl
theorem goes3 : false = Rows.requestNamesRow.goesBy Tryz.pinned.checked.prog := goesBy_none _ noGoes
theorem requestNames_holds : Rows.RequestNamesCardSaid :=
  Claim7.holds_tied_plain_at .later [] _ _ _ _ said3 (fun _ h => by cases h) wf3 (fun _ h => by cases h) requestNames_row_tie rfl ⟨rfl, rfl⟩ main3 rfl plain3 goes3
#print axioms requestNames_holds
end Go.Proofs.YteacgfebjekllaaGreatDoor

