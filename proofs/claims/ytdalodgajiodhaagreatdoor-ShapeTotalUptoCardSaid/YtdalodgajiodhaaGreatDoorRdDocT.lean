/- What is proved: contracts of functions of this translation, walked; their plain meaning. No condition beyond those that each theorem names. -/
import Derived.Test.YtdalodgajiodhaaGreatDoorRdTryz
import Derived.Test.YtdalodgajiodhaaGreatDoorMb3
set_option linter.all false
set_option maxRecDepth 100000
namespace Go.Proofs.YtdalodgajiodhaaGreatDoor
open Go Go.Ac Go.RowKit Go.ChangeShapes Go.WideShapes Go.ChangeAt
section
variable {H : Type} {enc : TypeId × Value → H} {w : World} {held : Bool}
def IsValT (a : AV) : Prop := ∃ v : JV, a = encV v ∧ okV v ∧ tnV v
def IsValsT (a : AV) : Prop := ∃ l : List JV, a = .sl 5 (l.map encV) [] ∧ okVs l ∧ l.length ≤ 2 ^ 50 ∧ tnVs l
theorem isValsT_of {a : AV} (h : IsSl Tryz.prog 25 IsValT a) : IsValsT a := by
  obtain ⟨els, rfl, he, hl⟩ := h
  have hv : ∀ els : List AV, (∀ x ∈ els, IsValT x) → ∃ l : List JV, els = l.map encV ∧ okVs l ∧ tnVs l := by
    intro els
    induction els with
    | nil => intro _; exact ⟨[], rfl, trivial, trivial⟩
    | cons x els ih =>
      intro h
      obtain ⟨v, rfl, hv, ht⟩ := h x (by simp)
      obtain ⟨l, rfl, hl, hl2⟩ := ih fun y hy => h y (by simp [hy])
      exact ⟨v :: l, rfl, ⟨hv, hl⟩, ⟨ht, hl2⟩⟩
  obtain ⟨l, rfl, ho, ht⟩ := hv els he
  have hb : Tryz.prog.bytesOf 25 = 80 := by kernel_rfl
  have hc : Tryz.prog.cellsOf 25 = 5 := by kernel_rfl
  refine ⟨l, by rw [hc], ho, ?_, ht⟩
  rw [hb] at hl; unfold reachBytes at hl; simp only [List.length_map] at hl; omega
theorem isValT_of {l : List AV} (h : KsOf [IsInt .i64, IsInt .i64, IsStr, IsStrs, IsValsT] l) : IsValT (.agg (flats l)) := by
  cases h with
  | cons k0 h => cases h with
    | cons k1 h => cases h with
      | cons k2 h => cases h with
        | cons k3 h => cases h with
          | cons k4 h => cases h with
            | nil =>
              obtain ⟨n0, rfl, _⟩ := k0
              obtain ⟨n1, rfl, _⟩ := k1
              obtain ⟨s, rfl, hs⟩ := k2
              obtain ⟨p, rfl, hp, hps⟩ := k3
              obtain ⟨l, rfl, ho, hl, ht⟩ := k4
              refine ⟨.mk ⟨n0, n1, s, p⟩ l, by simp only [encV_eq, JV.kind, JV.int, JV.text, JV.names, JV.items, JV.hd]; rfl, ⟨by simp only; omega, by omega, ho⟩, ⟨?_, hps, ht⟩⟩
              unfold reachBytes at hs; show s.length ≤ 2 ^ 50; omega
theorem rd_valT : ∀ n : Nat, RdF Rows.uptoBulk enc Tryz.prog w held n 25 IsValT := by
  intro n
  induction n using Nat.strongRecOn with
  | _ n ih =>
    refine (rd_struct bk (Ks := [IsInt .i64, IsInt .i64, IsStr, IsStrs, IsValsT]) Tryz.underlying25 (by kernel_rfl) (by kernel_rfl) rfl fun m hm i u K hu hK => ?_).mono fun a ⟨l, e, h⟩ => e ▸ isValT_of h
    match i, hu, hK with
    | 0, hu, hK => cases hu; cases hK; exact rd_int Tryz.underlying3 (by kernel_rfl)
    | 1, hu, hK => cases hu; cases hK; exact rd_int Tryz.underlying2 (by kernel_rfl)
    | 2, hu, hK => cases hu; cases hK; exact rd_str bk Tryz.underlying9 (by kernel_rfl)
    | 3, hu, hK => cases hu; cases hK; exact rd_strs m
    | 4, hu, hK => cases hu; cases hK; exact (rd_slice bk Tryz.underlying23 (by kernel_rfl) (of_decide_eq_true (by kernel_rfl)) fun q hq => ih q (by omega)).mono fun _ => isValsT_of
    | i + 5, hu, hK => simp at hK
def IsDocT (a : AV) : Prop := ∃ d : Doc, a = docA d ∧ okV d.v ∧ tnV d.v
def IsDocsT (a : AV) : Prop := ∃ D : List Doc, a = .sl 7 (docsA D) [] ∧ (∀ d ∈ D, okV d.v) ∧ (∀ d ∈ D, tnV d.v) ∧ D.length ≤ 2 ^ 41
theorem isDocT_of {l : List AV} (h : KsOf [IsStr, IsInt .i64, IsValT] l) : IsDocT (.agg (flats l)) := by
  cases h with
  | cons k0 h => cases h with
    | cons k1 h => cases h with
      | cons k2 h => cases h with
        | nil =>
          obtain ⟨s, rfl, _⟩ := k0
          obtain ⟨n, rfl, _⟩ := k1
          obtain ⟨v, rfl, ho, ht⟩ := k2
          exact ⟨⟨s, n, v⟩, by obtain ⟨h, l⟩ := v; rfl, ho, ht⟩
theorem isDocsT_of {a : AV} (h : IsSl Tryz.prog 40 IsDocT a) : IsDocsT a := by
  obtain ⟨els, rfl, he, hl⟩ := h
  have hv : ∀ els : List AV, (∀ x ∈ els, IsDocT x) → ∃ D : List Doc, els = docsA D ∧ (∀ d ∈ D, okV d.v) ∧ ∀ d ∈ D, tnV d.v := by
    intro els
    induction els with
    | nil => intro _; exact ⟨[], rfl, by simp, by simp⟩
    | cons x els ih =>
      intro h
      obtain ⟨v, rfl, hv, ht⟩ := h x (by simp)
      obtain ⟨l, rfl, hl, hl2⟩ := ih fun y hy => h y (by simp [hy])
      refine ⟨v :: l, rfl, fun d hd => ?_, fun d hd => ?_⟩
      · rcases List.mem_cons.1 hd with rfl | hd
        · exact hv
        · exact hl d hd
      · rcases List.mem_cons.1 hd with rfl | hd
        · exact ht
        · exact hl2 d hd
  obtain ⟨D, rfl, ho, ht⟩ := hv els he
  have hb : Tryz.prog.bytesOf 40 = 104 := by kernel_rfl
  have hc : Tryz.prog.cellsOf 40 = 7 := by kernel_rfl
  refine ⟨D, by rw [hc], ho, ht, ?_⟩
  rw [hb, docs_len] at hl; unfold reachBytes at hl; omega
theorem rd_docT (n : Nat) : RdF Rows.uptoBulk enc Tryz.prog w held n 40 IsDocT := by
  refine (rd_struct bk (Ks := [IsStr, IsInt .i64, IsValT]) Tryz.underlying40 (by kernel_rfl) (by kernel_rfl) rfl fun m hm i u K hu hK => ?_).mono fun a ⟨l, e, h⟩ => e ▸ isDocT_of h
  match i, hu, hK with
  | 0, hu, hK => cases hu; cases hK; exact rd_str bk Tryz.underlying9 (by kernel_rfl)
  | 1, hu, hK => cases hu; cases hK; exact rd_int Tryz.underlying2 (by kernel_rfl)
  | 2, hu, hK => cases hu; cases hK; exact rd_valT m
  | i + 3, hu, hK => simp at hK
theorem rd_docsT (n : Nat) : RdF Rows.uptoBulk enc Tryz.prog w held n 26 IsDocsT :=
  (rd_slice bk Tryz.underlying26 (by kernel_rfl) (of_decide_eq_true (by kernel_rfl)) fun m _ => rd_docT m).mono fun _ => isDocsT_of
end
theorem arg_docsT {H : Type} {enc : TypeId × Value → H} {W : World} {base : Nat} {v : Value} {d : DataW H} {ps : List MemPlace} (hval : Value.okWide Tryz.prog W .any base 26 v) (h : DataW.Trod enc Tryz.prog W 0 (fun _ => true) true 26 v d ps)
    (hz : ∀ z ∈ d.weights Tryz.prog 26, z ≤ reachBytes) : ∃ D : List Doc, (∀ d ∈ D, okV d.v) ∧ (∀ d ∈ D, tnV d.v) ∧ D.length ≤ 2 ^ 41 ∧ bl (.sl 7 (docsA D) []) ≤ Rows.uptoBulk d ∧ ∀ (β : Nat → Plc) (S : Nat → Prop), R β S (fun b => b < W.heap.size) W.heap false (.sl 7 (docsA D) []) v := by
  obtain ⟨a, ⟨D, rfl, h1, h2, h3⟩, hb, hR⟩ := arg_one (fun n => rd_docsT n) (by rintro a ⟨p, rfl, _⟩; rfl) (by rintro cs rfl; simp only [Value.okWide, Tryz.underlying26, Cell.okWide, Cell.ok] at hval) h hz
  exact ⟨D, h1, h2, h3, hb, hR⟩
end Go.Proofs.YtdalodgajiodhaaGreatDoor

