/- What is proved: contracts of functions of this translation, walked; their plain meaning. No condition beyond those that each theorem names. -/
import Derived.Test.YtdalodgajiodhaaGreatDoorILw1
set_option linter.all false
namespace Go.Proofs
open Go.RowKit Go.Shelf
attribute [local go_sem] Oper.semAt_some
set_option maxRecDepth 100000
set_option maxHeartbeats 1000000
theorem Tryz.all98_in (F : Fence) (n : Nat) (h8 : F.fn 98) (hro : F.round = none) (hn : 1 ≤ n) (l Bs n₀ b off cap : Nat) (k0 k1 : Int) (s2 : ByteArray) (a3 : Option Addr) (l3 p3 : Nat) (a4 : Option Addr) (l4 p4 : Nat) (hb : b < n₀) (J Jx : List Unit → World → Prop)
    (hY : ∀ pre x W, J pre W → pre.length < 1 → YieldAt F (n - 1) Tryz.prog l #[.int .i64 0, .agg #[.int .i64 k0, .int .i64 k1, .string s2, .slice a3 l3 p3, .slice a4 l4 p4]] W fun e W' =>
      (e = .returned (.bool true) ∧ J (pre ++ [x]) W' ∧ Below n₀ W W') ∨ (e = .returned (.bool false) ∧ Jx (pre ++ [x]) W'))
    (hJa : ∀ pre W o, J pre W → Below n₀ W (W.alloc o) → J pre (W.alloc o))
    (W : World) (hn₀ : n₀ ≤ W.heap.size) (hBs : W.cell? ⟨Bs, 0, none⟩ = some (.slice (some ⟨b, off, none⟩) 1 cap))
    (hc0 : W.cell? ⟨b, off, none⟩ = some (.int .i64 k0)) (hc1 : W.cell? ⟨b, off + 1, none⟩ = some (.int .i64 k1)) (hc2 : W.cell? ⟨b, off + 2, none⟩ = some (.string s2)) (hc3 : W.cell? ⟨b, off + 3, none⟩ = some (.slice a3 l3 p3)) (hc4 : W.cell? ⟨b, off + 4, none⟩ = some (.slice a4 l4 p4)) (h0 : J [] W) :
    CallsIn F n Tryz.prog 98 #[.func (.yield l) #[] #[], .pointer (some ⟨Bs, 0, none⟩)] W fun e W' => (∃ v, e = .returned v) ∧
      ((∃ ys, ys.length = 1 ∧ J ys W') ∨ (∃ pre, pre.length ≤ 1 ∧ Jx pre W')) := by
  refine callsIn_of_wp Tryz.func98 rfl h8 ?_ hro
  simp only [Tryz.ntmps98, List.size_toArray, List.length_cons, List.length_nil, Nat.reduceAdd, Nat.reduceSub, Array.replicate_succ, Array.replicate_zero, List.push_toArray, List.append_toArray, List.nil_append, List.cons_append]
  gi_wp2
  gi_loopw [7] (fun i wr => ∃ pre : List Unit, pre.length ≤ 1 ∧ i = .int .i64 pre.length ∧ J pre wr ∧ Below n₀ W wr)
    (fun i _ => 1 - (intOf i).toNat)
  case atStart => exact ⟨[], Nat.zero_le _, rfl, h0, Below.refl _ _⟩
  case round =>
    obtain ⟨pre, hk, rfl, hJs, hnx⟩ := hrel
    have e0 : wr.cell? ⟨b, off, none⟩ = some (.int .i64 k0) := (hnx.cell (p := ⟨b, off, none⟩) hb).trans hc0
    have e1 : wr.cell? ⟨b, off + 1, none⟩ = some (.int .i64 k1) := (hnx.cell (p := ⟨b, off + 1, none⟩) hb).trans hc1
    have e2 : wr.cell? ⟨b, off + 2, none⟩ = some (.string s2) := (hnx.cell (p := ⟨b, off + 2, none⟩) hb).trans hc2
    have e3 : wr.cell? ⟨b, off + 3, none⟩ = some (.slice a3 l3 p3) := (hnx.cell (p := ⟨b, off + 3, none⟩) hb).trans hc3
    have e4 : wr.cell? ⟨b, off + 4, none⟩ = some (.slice a4 l4 p4) := (hnx.cell (p := ⟨b, off + 4, none⟩) hb).trans hc4
    by_cases hlt : pre.length < 1
    · obtain rfl : pre = [] := List.length_eq_zero_iff.1 (by omega)
      obtain ⟨fn, tmps, assign, body, hy, hR⟩ := hY _ () (wr.alloc (.cells #[.int .i64 k0, .int .i64 k1, .string s2, .slice a3 l3 p3, .slice a4 l4 p4] 25)) (hJa _ _ _ hJs ((Below.refl _ _).alloc (Nat.le_trans hn₀ hnx.size) _)) hlt
      gi_wp2
      refine hR.mono ?_
      rintro e W3 (⟨rfl, hJ3, hk3⟩ | ⟨rfl, hJx3⟩)
      · gi_wp2
        go_roundw
        case rel => exact ⟨[()], by simp, by simp, hJ3, hnx.trans (((Below.refl _ _).alloc (Nat.le_trans hn₀ hnx.size) _).trans hk3)⟩
        case measure => simp [intOf]
      · gi_wp2
        refine bodyPost_ret (results_none rfl _ _ _) rfl ?_
        exact ⟨⟨_, rfl⟩, .inr ⟨[()], by simp, hJx3⟩⟩
    · obtain h1 : pre.length = 1 := by omega
      gi_wp2
      go_end0
      exact ⟨⟨_, rfl⟩, .inl ⟨_, h1, hJs⟩⟩
end Go.Proofs

