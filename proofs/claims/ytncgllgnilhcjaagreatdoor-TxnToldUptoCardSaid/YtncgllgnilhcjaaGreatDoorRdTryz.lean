/- What is proved: contracts of functions of this translation, walked; their plain meaning. No condition beyond those that each theorem names. -/
import Derived.Test.YtncgllgnilhcjaaGreatDoorMa5
import Derived.Test.YtncgllgnilhcjaaGreatDoorRbTryz
set_option linter.all false
set_option maxRecDepth 100000
namespace Go.Proofs.YtncgllgnilhcjaaGreatDoor
open Go Go.Ac Go.RowKit Go.ChangeShapes Go.WideShapes Go.ChangeAt
section
variable {H : Type} {enc : TypeId × Value → H} {w : World} {held : Bool}
theorem sumB_all {H : Type} : ∀ l : List (DataW H), sumB Rows.uptoBulk l = Rows.uptoBulkAll l
  | [] => by simp [sumB, Rows.uptoBulkAll]
  | d :: l => by simp only [sumB, Rows.uptoBulkAll, sumB_all l]
theorem bk {H : Type} : Bk (Rows.uptoBulk (H := H)) :=
  ⟨fun s => by simp [Rows.uptoBulk], by simp [Rows.uptoBulk], fun a b => by simp only [Rows.uptoBulk, sumB_all]; omega, fun a => by simp only [Rows.uptoBulk, sumB_all]; omega⟩
def IsVal (a : AV) : Prop := ∃ v : JV, a = encV v ∧ okV v
def IsStrs (a : AV) : Prop := ∃ p : List (List UInt8), a = .sl 1 (p.map AV.str) [] ∧ p.length ≤ 8796093021952 ∧ ∀ s ∈ p, s.length ≤ 2 ^ 50
def IsVals (a : AV) : Prop := ∃ l : List JV, a = .sl 5 (l.map encV) [] ∧ okVs l ∧ l.length ≤ 2 ^ 50
theorem isStrs_of {a : AV} (h : IsSl Tryz.prog 9 IsStr a) : IsStrs a := by
  obtain ⟨els, rfl, he, hl⟩ := h
  have hv : ∀ els : List AV, (∀ x ∈ els, IsStr x) → ∃ p : List (List UInt8), els = p.map AV.str ∧ ∀ s ∈ p, s.length ≤ 2 ^ 50 := by
    intro els
    induction els with
    | nil => intro _; exact ⟨[], rfl, by simp⟩
    | cons x els ih =>
      intro h
      obtain ⟨s, rfl, hs⟩ := h x (by simp)
      obtain ⟨p, rfl, hp⟩ := ih fun y hy => h y (by simp [hy])
      refine ⟨s :: p, rfl, fun y hy => ?_⟩
      rcases List.mem_cons.1 hy with rfl | hy
      · unfold reachBytes at hs; omega
      · exact hp y hy
  obtain ⟨p, rfl, hp⟩ := hv els he
  have hb : Tryz.prog.bytesOf 9 = 16 := by kernel_rfl
  have hc : Tryz.prog.cellsOf 9 = 1 := by kernel_rfl
  refine ⟨p, by rw [hc], ?_, hp⟩
  rw [hb] at hl; unfold reachBytes at hl; simp only [List.length_map] at hl; omega
theorem isVals_of {a : AV} (h : IsSl Tryz.prog 25 IsVal a) : IsVals a := by
  obtain ⟨els, rfl, he, hl⟩ := h
  have hv : ∀ els : List AV, (∀ x ∈ els, IsVal x) → ∃ l : List JV, els = l.map encV ∧ okVs l := by
    intro els
    induction els with
    | nil => intro _; exact ⟨[], rfl, trivial⟩
    | cons x els ih =>
      intro h
      obtain ⟨v, rfl, hv⟩ := h x (by simp)
      obtain ⟨l, rfl, hl⟩ := ih fun y hy => h y (by simp [hy])
      exact ⟨v :: l, rfl, hv, hl⟩
  obtain ⟨l, rfl, ho⟩ := hv els he
  have hb : Tryz.prog.bytesOf 25 = 80 := by kernel_rfl
  have hc : Tryz.prog.cellsOf 25 = 5 := by kernel_rfl
  refine ⟨l, by rw [hc], ho, ?_⟩
  rw [hb] at hl; unfold reachBytes at hl; simp only [List.length_map] at hl; omega
theorem isVal_of {l : List AV} (h : KsOf [IsInt .i64, IsInt .i64, IsStr, IsStrs, IsVals] l) : IsVal (.agg (flats l)) := by
  cases h with
  | cons k0 h => cases h with
    | cons k1 h => cases h with
      | cons k2 h => cases h with
        | cons k3 h => cases h with
          | cons k4 h => cases h with
            | nil =>
              obtain ⟨n0, rfl, _⟩ := k0
              obtain ⟨n1, rfl, _⟩ := k1
              obtain ⟨s, rfl, _⟩ := k2
              obtain ⟨p, rfl, hp, _⟩ := k3
              obtain ⟨l, rfl, ho, hl⟩ := k4
              exact ⟨.mk ⟨n0, n1, s, p⟩ l, by simp only [encV_eq, JV.kind, JV.int, JV.text, JV.names, JV.items, JV.hd]; rfl, by simp only; omega, by omega, ho⟩
theorem rd_strs (n : Nat) : RdF Rows.uptoBulk enc Tryz.prog w held n 22 IsStrs :=
  (rd_slice bk Tryz.underlying22 (by kernel_rfl) (of_decide_eq_true (by kernel_rfl)) fun m _ => rd_str bk Tryz.underlying9 (by kernel_rfl)).mono fun _ => isStrs_of
theorem rd_val : ∀ n : Nat, RdF Rows.uptoBulk enc Tryz.prog w held n 25 IsVal := by
  intro n
  induction n using Nat.strongRecOn with
  | _ n ih =>
    refine (rd_struct bk (Ks := [IsInt .i64, IsInt .i64, IsStr, IsStrs, IsVals]) Tryz.underlying25 (by kernel_rfl) (by kernel_rfl) rfl fun m hm i u K hu hK => ?_).mono fun a ⟨l, e, h⟩ => e ▸ isVal_of h
    match i, hu, hK with
    | 0, hu, hK => cases hu; cases hK; exact rd_int Tryz.underlying3 (by kernel_rfl)
    | 1, hu, hK => cases hu; cases hK; exact rd_int Tryz.underlying2 (by kernel_rfl)
    | 2, hu, hK => cases hu; cases hK; exact rd_str bk Tryz.underlying9 (by kernel_rfl)
    | 3, hu, hK => cases hu; cases hK; exact rd_strs m
    | 4, hu, hK => cases hu; cases hK; exact (rd_slice bk Tryz.underlying23 (by kernel_rfl) (of_decide_eq_true (by kernel_rfl)) fun q hq => ih q (by omega)).mono fun _ => isVals_of
    | i + 5, hu, hK => simp at hK
end
theorem arg_one {H : Type} {enc : TypeId × Value → H} {W : World} {t : TypeId} {K : AV → Prop} {v : Value} {d : DataW H} {ps : List MemPlace} (hK : ∀ n, RdF Rows.uptoBulk enc Tryz.prog W true n t K) (hag : ∀ a, K a → a.isAgg = false) (hna : ∀ cs, v ≠ .agg cs)
    (h : DataW.Trod enc Tryz.prog W 0 (fun _ => true) true t v d ps) (hz : ∀ z ∈ d.weights Tryz.prog t, z ≤ reachBytes) : ∃ a, K a ∧ bl a ≤ Rows.uptoBulk d ∧ ∀ (β : Nat → Plc) (D : Nat → Prop), R β D (fun b => b < W.heap.size) W.heap false a v := by
  obtain ⟨a, h1, hc, hb, hR⟩ := rd_arg hK h hz ⟨by cases v <;> first | rfl | exact absurd rfl (hna _), hna⟩ hag
  exact ⟨a, h1, hb, hR⟩
theorem arg_int {H : Type} {enc : TypeId × Value → H} {W : World} {base : Nat} {t : TypeId} (ht : Tryz.prog.underlying t = some (.int .i64)) (hc : Tryz.prog.cellsOf t = 1) {v : Value} {d : DataW H} {ps : List MemPlace} (hval : Value.okWide Tryz.prog W .any base t v) (h : DataW.Trod enc Tryz.prog W 0 (fun _ => true) true t v d ps)
    (hz : ∀ z ∈ d.weights Tryz.prog t, z ≤ reachBytes) : ∃ n : Int, (-9223372036854775808 ≤ n ∧ n ≤ 9223372036854775807) ∧ ∀ (β : Nat → Plc) (D : Nat → Prop), R β D (fun b => b < W.heap.size) W.heap false (.val (.int .i64 n)) v := by
  obtain ⟨a, ⟨n, rfl, h1⟩, _, hR⟩ := arg_one (fun n => rd_int ht hc) (by rintro a ⟨p, rfl, _⟩; rfl) (by rintro cs rfl; simp only [Value.okWide, ht, Cell.okWide, Cell.ok] at hval) h hz
  exact ⟨n, by have h2 := h1; simp only [Lit.wf, decide_eq_true_eq, Bool.and_eq_true] at h2; exact h2, hR⟩
theorem wEach_mem {H : Type} {P : Program} : ∀ {ts : List TypeId} {ds : List (DataW H)}, (DataW.weightsEach P ts ds).all (· ≤ reachBytes) = true → ∀ (i : Nat) (t : TypeId) (d : DataW H), ts[i]? = some t → ds[i]? = some d → ∀ z ∈ d.weights P t, z ≤ reachBytes
  | [], _, _, i, t, d, h1, _ => by simp at h1
  | _ :: _, [], _, i, t, d, _, h2 => by simp at h2
  | u :: ts, e :: ds, h, i, t, d, h1, h2 => by
    simp only [DataW.weightsEach, List.all_append, Bool.and_eq_true] at h
    cases i with
    | zero =>
      simp only [List.getElem?_cons_zero, Option.some.injEq] at h1 h2
      subst h1 h2
      intro z hz
      simpa using List.all_eq_true.1 h.1 z hz
    | succ i => exact wEach_mem h.2 i t d (by simpa using h1) (by simpa using h2)
end Go.Proofs.YtncgllgnilhcjaaGreatDoor

