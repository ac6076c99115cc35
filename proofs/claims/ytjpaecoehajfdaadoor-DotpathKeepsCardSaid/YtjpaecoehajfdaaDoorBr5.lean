/- What is proved: how a change reads. No condition. -/
import Derived.Test.YtjpaecoehajfdaaDoorRw
import Derived.Test.YtjpaecoehajfdaaDoorTt31
set_option linter.all false
set_option maxRecDepth 100000
namespace Go.Proofs.YtjpaecoehajfdaaDoor
open Go Go.Ab Go.RowKit Go.ChangeShapes Go.WideShapes Go.ChangeAt

def IsChange (a : AV) : Prop := ∃ (v x : JV) (p : List (List UInt8)), a = chA v p x ∧ okV v ∧ okV x ∧ p.length ≤ 8796093021952

theorem isChange_of {l : List AV} (h : KsOf [IsVal, IsPath, IsVal] l) : IsChange (.agg (flats l)) := by
  cases h with
  | cons k0 h => cases h with
    | cons k1 h => cases h with
      | cons k2 h => cases h with
        | nil =>
          obtain ⟨v, rfl, hv⟩ := k0
          obtain ⟨p, rfl, hp, _⟩ := k1
          obtain ⟨x, rfl, hx⟩ := k2
          exact ⟨v, x, p, by simp only [flats, encV_flat, flat_sl, chA, List.cons_append, List.nil_append, List.append_nil], hv, hx, hp⟩

theorem rd_change {H : Type} {enc : TypeId × Value → H} {w : World} {held : Bool} (n : Nat) : RdF enc Tryd.prog w held n 39 IsChange := by
  refine (rd_struct (Ks := [IsVal, IsPath, IsVal]) Tryd.underlying39 (by kernel_rfl) (by kernel_rfl) rfl fun m hm i u K hu hK => ?_).mono fun a ⟨l, e, h⟩ => e ▸ isChange_of h
  match i, hu, hK with
  | 0, hu, hK => cases hu; cases hK; exact rd_val m
  | 1, hu, hK => cases hu; cases hK; exact rd_path m
  | 2, hu, hK => cases hu; cases hK; exact rd_val m
  | i + 3, hu, hK => simp at hK

theorem arg_change {H : Type} {enc : TypeId × Value → H} {W : World} {base : Nat} {v : Value} {d : DataW H} {ps : List MemPlace} (hval : Value.okWide Tryd.prog W .any base 39 v) (h : DataW.Trod enc Tryd.prog W 0 (fun _ => true) true 39 v d ps)
    (hz : ∀ z ∈ d.weights Tryd.prog 39, z ≤ reachBytes) : ∃ (j x : JV) (p : List (List UInt8)), okV j ∧ okV x ∧ p.length ≤ 8796093021952 ∧ ∀ (β : Nat → Plc) (D : Nat → Prop), R β D (fun b => b < W.heap.size) W.heap false (chA j p x) v := by
  obtain ⟨cs, rfl, _⟩ := okWide_struct Tryd.underlying39 hval
  obtain ⟨a, ⟨j, x, p, rfl, h1, h2, h3⟩, hc, hR⟩ := rd_argS (fun n => rd_change n) h hz (by rintro a ⟨j, x, p, rfl, _⟩; rfl)
  exact ⟨j, x, p, h1, h2, h3, hR⟩
end Go.Proofs.YtjpaecoehajfdaaDoor

