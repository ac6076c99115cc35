/- What is proved: how a text reads, and how long it is where what is read is small. No condition. -/
import Derived.Test.YtjpaecoehajfdaaDoorRw
import Derived.Test.YtjpaecoehajfdaaDoorTt42
set_option linter.all false
set_option maxRecDepth 100000
namespace Go.Proofs.YtjpaecoehajfdaaDoor
open Go Go.Ab Go.RowKit Go.ChangeShapes Go.WideShapes Go.ChangeAt

theorem arg_strB {H : Type} {enc : TypeId × Value → H} {W : World} {base : Nat} {v : Value} {d : DataW H} {ps : List MemPlace} (hval : Value.okWide Tryd.prog W .any base 9 v) (h : DataW.Trod enc Tryd.prog W 0 (fun _ => true) true 9 v d ps)
    (hz : ∀ z ∈ d.weights Tryd.prog 9, z ≤ reachBytes) : ∃ s : List UInt8, s.length + 1 ≤ Rows.uptoBulk d ∧ ∀ (β : Nat → Plc) (D : Nat → Prop), R β D (fun b => b < W.heap.size) W.heap false (.str s) v := by
  have hna : ∀ cs, v ≠ .agg cs := by
    rintro cs rfl
    simp only [Value.okWide, Tryd.underlying9, Cell.okWide, Cell.ok] at hval
  have hv : v.cells.toList.length = 1 := by cases v <;> first | rfl | exact absurd rfl (hna _)
  have e : v.cells = #[v] := by cases v <;> first | rfl | exact absurd rfl (hna _)
  obtain ⟨n, hn⟩ := h
  rw [e] at hn
  obtain ⟨s, hs, hx, _⟩ := DataW.trod_string Tryd.underlying9 hn
  simp only [Prod.mk.injEq] at hx
  obtain ⟨rfl, _⟩ := hx
  obtain rfl : v = .string s := by simpa using hs
  refine ⟨s.data.toList, by simp only [Rows.uptoBulk]; omega, fun β D => ?_⟩
  have : s = ⟨s.data.toList.toArray⟩ := by rw [Array.toArray_toList]
  rw [this]
  exact .str _ _
end Go.Proofs.YtjpaecoehajfdaaDoor

