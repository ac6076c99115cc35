/- What is proved: contracts of functions of this translation, walked; their plain meaning. No condition beyond those that each theorem names. -/
import Derived.Test.YtdalodgajiodhaaGreatDoorRdTryz
import Derived.Test.YtdalodgajiodhaaGreatDoorIs1
set_option linter.all false
set_option maxRecDepth 100000
namespace Go.Proofs.YtdalodgajiodhaaGreatDoor
open Go Go.Ac Go.RowKit Go.ChangeShapes Go.WideShapes Go.ChangeAt
section
variable {H : Type} {enc : TypeId × Value → H} {w : World} {held : Bool}
def IsDoc (a : AV) : Prop := ∃ d : Doc, a = docA d ∧ okV d.v
def IsDocs (a : AV) : Prop := ∃ D : List Doc, a = .sl 7 (docsA D) [] ∧ (∀ d ∈ D, okV d.v) ∧ D.length ≤ 2 ^ 41
theorem isDoc_of {l : List AV} (h : KsOf [IsStr, IsInt .i64, IsVal] l) : IsDoc (.agg (flats l)) := by
  cases h with
  | cons k0 h => cases h with
    | cons k1 h => cases h with
      | cons k2 h => cases h with
        | nil =>
          obtain ⟨s, rfl, _⟩ := k0
          obtain ⟨n, rfl, _⟩ := k1
          obtain ⟨v, rfl, ho⟩ := k2
          exact ⟨⟨s, n, v⟩, by obtain ⟨h, l⟩ := v; rfl, ho⟩
theorem isDocs_of {a : AV} (h : IsSl Tryz.prog 40 IsDoc a) : IsDocs a := by
  obtain ⟨els, rfl, he, hl⟩ := h
  have hv : ∀ els : List AV, (∀ x ∈ els, IsDoc x) → ∃ D : List Doc, els = docsA D ∧ ∀ d ∈ D, okV d.v := by
    intro els
    induction els with
    | nil => intro _; exact ⟨[], rfl, by simp⟩
    | cons x els ih =>
      intro h
      obtain ⟨v, rfl, hv⟩ := h x (by simp)
      obtain ⟨l, rfl, hl⟩ := ih fun y hy => h y (by simp [hy])
      refine ⟨v :: l, rfl, fun d hd => ?_⟩
      rcases List.mem_cons.1 hd with rfl | hd
      · exact hv
      · exact hl d hd
  obtain ⟨D, rfl, ho⟩ := hv els he
  have hb : Tryz.prog.bytesOf 40 = 104 := by kernel_rfl
  have hc : Tryz.prog.cellsOf 40 = 7 := by kernel_rfl
  refine ⟨D, by rw [hc], ho, ?_⟩
  rw [hb, docs_len] at hl; unfold reachBytes at hl; omega
theorem rd_doc (n : Nat) : RdF Rows.uptoBulk enc Tryz.prog w held n 40 IsDoc := by
  refine (rd_struct bk (Ks := [IsStr, IsInt .i64, IsVal]) Tryz.underlying40 (by kernel_rfl) (by kernel_rfl) rfl fun m hm i u K hu hK => ?_).mono fun a ⟨l, e, h⟩ => e ▸ isDoc_of h
  match i, hu, hK with
  | 0, hu, hK => cases hu; cases hK; exact rd_str bk Tryz.underlying9 (by kernel_rfl)
  | 1, hu, hK => cases hu; cases hK; exact rd_int Tryz.underlying2 (by kernel_rfl)
  | 2, hu, hK => cases hu; cases hK; exact rd_val m
  | i + 3, hu, hK => simp at hK
theorem rd_docs (n : Nat) : RdF Rows.uptoBulk enc Tryz.prog w held n 26 IsDocs :=
  (rd_slice bk Tryz.underlying26 (by kernel_rfl) (of_decide_eq_true (by kernel_rfl)) fun m _ => rd_doc m).mono fun _ => isDocs_of
end
theorem arg_docs {H : Type} {enc : TypeId × Value → H} {W : World} {base : Nat} {v : Value} {d : DataW H} {ps : List MemPlace} (hval : Value.okWide Tryz.prog W .any base 26 v) (h : DataW.Trod enc Tryz.prog W 0 (fun _ => true) true 26 v d ps)
    (hz : ∀ z ∈ d.weights Tryz.prog 26, z ≤ reachBytes) : ∃ D : List Doc, (∀ d ∈ D, okV d.v) ∧ D.length ≤ 2 ^ 41 ∧ bl (.sl 7 (docsA D) []) ≤ Rows.uptoBulk d ∧ ∀ (β : Nat → Plc) (S : Nat → Prop), R β S (fun b => b < W.heap.size) W.heap false (.sl 7 (docsA D) []) v := by
  obtain ⟨a, ⟨D, rfl, h1, h2⟩, hb, hR⟩ := arg_one (fun n => rd_docs n) (by rintro a ⟨p, rfl, _⟩; rfl) (by rintro cs rfl; simp only [Value.okWide, Tryz.underlying26, Cell.okWide, Cell.ok] at hval) h hz
  exact ⟨D, h1, h2, hb, hR⟩
end Go.Proofs.YtdalodgajiodhaaGreatDoor

