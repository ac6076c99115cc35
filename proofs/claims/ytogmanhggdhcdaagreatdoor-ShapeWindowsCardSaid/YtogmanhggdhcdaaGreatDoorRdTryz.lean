/- What is proved: contracts of functions of this translation, walked; their plain meaning. No condition beyond those that each theorem names. -/
import Derived.Test.YtogmanhggdhcdaaGreatDoorMa5
import Derived.Test.YtogmanhggdhcdaaGreatDoorRbTryz
set_option linter.all false
set_option maxRecDepth 100000
namespace Go.Proofs.YtogmanhggdhcdaaGreatDoor
open Go Go.Ac Go.RowKit Go.ChangeShapes Go.WideShapes Go.ChangeAt
section
variable {H : Type} {enc : TypeId × Value → H} {w : World} {held : Bool}
theorem sumB_all {H : Type} : ∀ l : List (DataW H), sumB Rows.uptoBulk l = Rows.uptoBulkAll l
  | [] => by simp [sumB, Rows.uptoBulkAll]
  | d :: l => by simp only [sumB, Rows.uptoBulkAll, sumB_all l]
theorem bk {H : Type} : Bk (Rows.uptoBulk (H := H)) :=
  ⟨fun s => by simp [Rows.uptoBulk], by simp [Rows.uptoBulk], fun a b => by simp only [Rows.uptoBulk, sumB_all]; omega, fun a => by simp only [Rows.uptoBulk, sumB_all]; omega⟩
end
theorem arg_one {H : Type} {enc : TypeId × Value → H} {W : World} {t : TypeId} {K : AV → Prop} {v : Value} {d : DataW H} {ps : List MemPlace} (hK : ∀ n, RdF Rows.uptoBulk enc Tryz.prog W true n t K) (hag : ∀ a, K a → a.isAgg = false) (hna : ∀ cs, v ≠ .agg cs)
    (h : DataW.Trod enc Tryz.prog W 0 (fun _ => true) true t v d ps) (hz : ∀ z ∈ d.weights Tryz.prog t, z ≤ reachBytes) : ∃ a, K a ∧ bl a ≤ Rows.uptoBulk d ∧ ∀ (β : Nat → Plc) (D : Nat → Prop), R β D (fun b => b < W.heap.size) W.heap false a v := by
  obtain ⟨a, h1, hc, hb, hR⟩ := rd_arg hK h hz ⟨by cases v <;> first | rfl | exact absurd rfl (hna _), hna⟩ hag
  exact ⟨a, h1, hb, hR⟩
theorem arg_int {H : Type} {enc : TypeId × Value → H} {W : World} {base : Nat} {t : TypeId} (ht : Tryz.prog.underlying t = some (.int .i64)) (hc : Tryz.prog.cellsOf t = 1) {v : Value} {d : DataW H} {ps : List MemPlace} (hval : Value.okWide Tryz.prog W .any base t v) (h : DataW.Trod enc Tryz.prog W 0 (fun _ => true) true t v d ps)
    (hz : ∀ z ∈ d.weights Tryz.prog t, z ≤ reachBytes) : ∃ n : Int, (-9223372036854775808 ≤ n ∧ n ≤ 9223372036854775807) ∧ ∀ (β : Nat → Plc) (D : Nat → Prop), R β D (fun b => b < W.heap.size) W.heap false (.val (.int .i64 n)) v := by
  obtain ⟨a, ⟨n, rfl, h1⟩, _, hR⟩ := arg_one (fun n => rd_int ht hc) (by rintro a ⟨p, rfl, _⟩; rfl) (by rintro cs rfl; simp only [Value.okWide, ht, Cell.okWide, Cell.ok] at hval) h hz
  exact ⟨n, by have h2 := h1; simp only [Lit.wf, decide_eq_true_eq, Bool.and_eq_true] at h2; exact h2, hR⟩
theorem wEach_mem {H : Type} {P : Program} : ∀ {ts : List TypeId} {ds : List (DataW H)}, (DataW.weightsEach P ts ds).all (· ≤ reachBytes) = true → ∀ (i : Nat) (t : TypeId) (d : DataW H), ts[i]? = some t → ds[i]? = some d → ∀ z ∈ d.weights P t, z ≤ reachBytes
  | [], _, _, i, t, d, h1, _ => by simp at h1
  | _ :: _, [], _, i, t, d, _, h2 => by simp at h2
  | u :: ts, e :: ds, h, i, t, d, h1, h2 => by
    simp only [DataW.weightsEach, List.all_append, Bool.and_eq_true] at h
    cases i with
    | zero =>
      simp only [List.getElem?_cons_zero, Option.some.injEq] at h1 h2
      subst h1 h2
      intro z hz
      simpa using List.all_eq_true.1 h.1 z hz
    | succ i => exact wEach_mem h.2 i t d (by simpa using h1) (by simpa using h2)
end Go.Proofs.YtogmanhggdhcdaaGreatDoor

