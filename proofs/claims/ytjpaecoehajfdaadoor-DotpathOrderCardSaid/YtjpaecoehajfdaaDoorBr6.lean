/- What is proved: how the argument of DotpathOrder reads. No condition. -/
import Derived.Test.YtjpaecoehajfdaaDoorRw
import Derived.Test.YtjpaecoehajfdaaDoorTt28
set_option linter.all false
set_option maxRecDepth 100000
namespace Go.Proofs.YtjpaecoehajfdaaDoor
open Go Go.Ab Go.RowKit Go.ChangeShapes Go.WideShapes Go.ChangeAt

def IsTwo (c : AV) : Prop := ∃ (v x y : JV) (a b q : List (List UInt8)), c = twA v a b x y q ∧ okV v ∧ okV x ∧ okV y ∧ a.length ≤ 8796093021952 ∧ b.length ≤ 8796093021952 ∧ q.length ≤ 8796093021952

theorem isTwo_of {l : List AV} (h : KsOf [IsVal, IsPath, IsPath, IsVal, IsVal, IsPath] l) : IsTwo (.agg (flats l)) := by
  cases h with
  | cons k0 h => cases h with
    | cons k1 h => cases h with
      | cons k2 h => cases h with
        | cons k3 h => cases h with
          | cons k4 h => cases h with
            | cons k5 h => cases h with
              | nil =>
                obtain ⟨v, rfl, hv⟩ := k0
                obtain ⟨a, rfl, ha, _⟩ := k1
                obtain ⟨b, rfl, hb, _⟩ := k2
                obtain ⟨x, rfl, hx⟩ := k3
                obtain ⟨y, rfl, hy⟩ := k4
                obtain ⟨q, rfl, hq, _⟩ := k5
                exact ⟨v, x, y, a, b, q, by simp only [flats, encV_flat, flat_sl, twA, List.cons_append, List.nil_append, List.append_nil], hv, hx, hy, ha, hb, hq⟩

theorem rd_two {H : Type} {enc : TypeId × Value → H} {w : World} {held : Bool} (n : Nat) : RdF enc Tryd.prog w held n 52 IsTwo := by
  refine (rd_struct (Ks := [IsVal, IsPath, IsPath, IsVal, IsVal, IsPath]) Tryd.underlying52 (by kernel_rfl) (by kernel_rfl) rfl fun m hm i u K hu hK => ?_).mono fun a ⟨l, e, h⟩ => e ▸ isTwo_of h
  match i, hu, hK with
  | 0, hu, hK => cases hu; cases hK; exact rd_val m
  | 1, hu, hK => cases hu; cases hK; exact rd_path m
  | 2, hu, hK => cases hu; cases hK; exact rd_path m
  | 3, hu, hK => cases hu; cases hK; exact rd_val m
  | 4, hu, hK => cases hu; cases hK; exact rd_val m
  | 5, hu, hK => cases hu; cases hK; exact rd_path m
  | i + 6, hu, hK => simp at hK

theorem arg_two {H : Type} {enc : TypeId × Value → H} {W : World} {base : Nat} {v : Value} {d : DataW H} {ps : List MemPlace} (hval : Value.okWide Tryd.prog W .any base 52 v) (h : DataW.Trod enc Tryd.prog W 0 (fun _ => true) true 52 v d ps)
    (hz : ∀ z ∈ d.weights Tryd.prog 52, z ≤ reachBytes) : ∃ (j x y : JV) (a b q : List (List UInt8)), okV j ∧ okV x ∧ okV y ∧ a.length ≤ 8796093021952 ∧ b.length ≤ 8796093021952 ∧ q.length ≤ 8796093021952 ∧ ∀ (β : Nat → Plc) (D : Nat → Prop), R β D (fun b => b < W.heap.size) W.heap false (twA j a b x y q) v := by
  obtain ⟨cs, rfl, _⟩ := okWide_struct Tryd.underlying52 hval
  obtain ⟨c, ⟨j, x, y, a, b, q, rfl, h1, h2, h3, h4, h5, h6⟩, hc, hR⟩ := rd_argS (fun n => rd_two n) h hz (by rintro a ⟨j, x, y, c, b, q, rfl, _⟩; rfl)
  exact ⟨j, x, y, a, b, q, h1, h2, h3, h4, h5, h6, hR⟩
end Go.Proofs.YtjpaecoehajfdaaDoor

