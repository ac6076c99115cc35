/- What is proved: how a list of paths reads. No condition. -/
import Derived.Test.YtjpaecoehajfdaaDoorRw
import Derived.Test.YtjpaecoehajfdaaDoorTt23
set_option linter.all false
set_option maxRecDepth 100000
namespace Go.Proofs.YtjpaecoehajfdaaDoor
open Go Go.Ab Go.RowKit Go.ChangeShapes Go.WideShapes Go.ChangeAt

def IsPaths (a : AV) : Prop := ∃ ps : List (List (List UInt8)), a = .sl 1 (ps.map pthA) [] ∧ ps.length ≤ 8796093021952 ∧ ∀ p ∈ ps, p.length ≤ 8796093021952

theorem isPaths_of {a : AV} (h : IsSl Tryd.prog 22 IsPath a) : IsPaths a := by
  obtain ⟨els, rfl, he, hl⟩ := h
  have hv : ∀ els : List AV, (∀ x ∈ els, IsPath x) → ∃ ps : List (List (List UInt8)), els = ps.map pthA ∧ ∀ p ∈ ps, p.length ≤ 8796093021952 := by
    intro els
    induction els with
    | nil => intro _; exact ⟨[], rfl, by simp⟩
    | cons x els ih =>
      intro h
      obtain ⟨s, rfl, hs, _⟩ := h x (by simp)
      obtain ⟨p, rfl, hp⟩ := ih fun y hy => h y (by simp [hy])
      refine ⟨s :: p, rfl, fun y hy => ?_⟩
      rcases List.mem_cons.1 hy with rfl | hy
      · exact hs
      · exact hp y hy
  obtain ⟨p, rfl, hp⟩ := hv els he
  have hb : Tryd.prog.bytesOf 22 = 24 := by kernel_rfl
  have hc : Tryd.prog.cellsOf 22 = 1 := by kernel_rfl
  refine ⟨p, by rw [hc], ?_, hp⟩
  rw [hb] at hl; unfold reachBytes at hl; simp only [List.length_map] at hl; omega

theorem rd_paths {H : Type} {enc : TypeId × Value → H} {w : World} {held : Bool} (n : Nat) : RdF enc Tryd.prog w held n 56 IsPaths :=
  (rd_slice Tryd.underlying56 (by kernel_rfl) (of_decide_eq_true (by kernel_rfl)) fun m _ => rd_path m).mono fun _ => isPaths_of

theorem arg_paths {H : Type} {enc : TypeId × Value → H} {W : World} {base : Nat} {v : Value} {d : DataW H} {ps : List MemPlace} (hval : Value.okWide Tryd.prog W .any base 56 v) (h : DataW.Trod enc Tryd.prog W 0 (fun _ => true) true 56 v d ps)
    (hz : ∀ z ∈ d.weights Tryd.prog 56, z ≤ reachBytes) : ∃ l : List (List (List UInt8)), l.length ≤ 8796093021952 ∧ (∀ p ∈ l, p.length ≤ 8796093021952) ∧ ∀ (β : Nat → Plc) (D : Nat → Prop), R β D (fun b => b < W.heap.size) W.heap false (.sl 1 (l.map pthA) []) v := by
  have hna : ∀ cs, v ≠ .agg cs := by
    rintro cs rfl
    simp only [Value.okWide, Tryd.underlying56, Cell.okWide, Cell.ok] at hval
  obtain ⟨a, ⟨p, rfl, h1, h2⟩, hc, hR⟩ := rd_arg (fun n => rd_paths n) h hz ⟨by cases v <;> first | rfl | exact absurd rfl (hna _), hna⟩ (by rintro a ⟨p, rfl, _⟩; rfl)
  exact ⟨p, h1, h2, hR⟩
end Go.Proofs.YtjpaecoehajfdaaDoor

