/- What is proved: contracts of functions of this translation, walked; their plain meaning. No condition beyond those that each theorem names. -/
import Derived.Test.YtkpppapgbplokaaGreatDoorHLw4
set_option linter.all false
namespace Go.Proofs
open Go.RowKit Go.Shelf
attribute [local go_sem] Oper.semAt_some
set_option maxRecDepth 100000
set_option maxHeartbeats 400000
theorem Tryz.least66_in (F : Fence) (n : Nat) (h66 : F.fn 66) (h84 : F.fn 84) (h83 : F.fn 83) (h98 : F.fn 98) (hro : F.round = none) (hn : 4 ≤ n) (b off cap : Nat) (k0 k1 : Int) (s2 : ByteArray) (a3 : Option Addr) (l3 p3 : Nat) (a4 : Option Addr) (l4 p4 : Nat)
    (w : World) (hb : b < w.heap.size)
    (hc0 : w.cell? ⟨b, off, none⟩ = some (.int .i64 k0)) (hc1 : w.cell? ⟨b, off + 1, none⟩ = some (.int .i64 k1)) (hc2 : w.cell? ⟨b, off + 2, none⟩ = some (.string s2)) (hc3 : w.cell? ⟨b, off + 3, none⟩ = some (.slice a3 l3 p3)) (hc4 : w.cell? ⟨b, off + 4, none⟩ = some (.slice a4 l4 p4)) :
    CallsIn F n Tryz.prog 66 #[.slice (some ⟨b, off, none⟩) 1 cap] w fun e W' => e = .returned (.tuple #[.int .i64 0, .bool true]) ∧ Below w.heap.size w W' := by
  have h1 : 1 ≤ n := by omega
  have hB0 : Below w.heap.size w (w.alloc (.cells #[.slice (some ⟨b, off, none⟩) 1 cap] 23)) := (Below.refl _ w).alloc (Nat.le_refl _) _
  have hsz : (w.alloc (.cells #[.slice (some ⟨b, off, none⟩) 1 cap] 23)).heap.size = w.heap.size + 1 := by simp
  have hcb : (w.alloc (.cells #[.slice (some ⟨b, off, none⟩) 1 cap] 23)).cell? ⟨w.heap.size, 0, none⟩ = some (.slice (some ⟨b, off, none⟩) 1 cap) := (Boxed.new w 23 (.slice (some ⟨b, off, none⟩) 1 cap)).cell
  have hh := Tryz.chosen83_in F (n - 1) h83 h98 hro (by omega) 85 w.heap.size w.heap.size b off cap k0 k1 s2 a3 l3 p3 a4 l4 p4 hb _ (by omega) (by omega) hcb
    ((hB0.cell (p := ⟨b, off, none⟩) hb).trans hc0) ((hB0.cell (p := ⟨b, off + 1, none⟩) hb).trans hc1) ((hB0.cell (p := ⟨b, off + 2, none⟩) hb).trans hc2) ((hB0.cell (p := ⟨b, off + 3, none⟩) hb).trans hc3) ((hB0.cell (p := ⟨b, off + 4, none⟩) hb).trans hc4)
  refine callsIn_of_wp Tryz.func66 rfl h66 ?_ hro
  simp only [Tryz.ntmps66, List.size_toArray, List.length_cons, List.length_nil, Nat.reduceAdd, Nat.reduceSub, Array.replicate_succ, Array.replicate_zero, List.push_toArray, List.append_toArray, List.nil_append, List.cons_append]
  gi_wp2_with (gi_at_call 84; refine (Tryz.all84_in F (n - 1) h84 hro _ _ _ _).mono ?_; rintro e w' ⟨rfl, rfl⟩)
  refine hh.mono ?_
  rintro e w' ⟨rfl, hB⟩
  gi_wp2
  refine bodyPost_ret (v := .tuple #[.int .i64 0, .bool true]) (by simp [results, Tryz.f66, go_sem]) rfl ?_
  exact ⟨rfl, hB0.trans (hB.mono (by omega))⟩
theorem Tryz.greatest67_in (F : Fence) (n : Nat) (h67 : F.fn 67) (h84 : F.fn 84) (h83 : F.fn 83) (h98 : F.fn 98) (hro : F.round = none) (hn : 4 ≤ n) (b off cap : Nat) (k0 k1 : Int) (s2 : ByteArray) (a3 : Option Addr) (l3 p3 : Nat) (a4 : Option Addr) (l4 p4 : Nat)
    (w : World) (hb : b < w.heap.size)
    (hc0 : w.cell? ⟨b, off, none⟩ = some (.int .i64 k0)) (hc1 : w.cell? ⟨b, off + 1, none⟩ = some (.int .i64 k1)) (hc2 : w.cell? ⟨b, off + 2, none⟩ = some (.string s2)) (hc3 : w.cell? ⟨b, off + 3, none⟩ = some (.slice a3 l3 p3)) (hc4 : w.cell? ⟨b, off + 4, none⟩ = some (.slice a4 l4 p4)) :
    CallsIn F n Tryz.prog 67 #[.slice (some ⟨b, off, none⟩) 1 cap] w fun e W' => e = .returned (.tuple #[.int .i64 0, .bool true]) ∧ Below w.heap.size w W' := by
  have h1 : 1 ≤ n := by omega
  have hB0 : Below w.heap.size w (w.alloc (.cells #[.slice (some ⟨b, off, none⟩) 1 cap] 23)) := (Below.refl _ w).alloc (Nat.le_refl _) _
  have hsz : (w.alloc (.cells #[.slice (some ⟨b, off, none⟩) 1 cap] 23)).heap.size = w.heap.size + 1 := by simp
  have hcb : (w.alloc (.cells #[.slice (some ⟨b, off, none⟩) 1 cap] 23)).cell? ⟨w.heap.size, 0, none⟩ = some (.slice (some ⟨b, off, none⟩) 1 cap) := (Boxed.new w 23 (.slice (some ⟨b, off, none⟩) 1 cap)).cell
  have hh := Tryz.chosen83_in F (n - 1) h83 h98 hro (by omega) 86 w.heap.size w.heap.size b off cap k0 k1 s2 a3 l3 p3 a4 l4 p4 hb _ (by omega) (by omega) hcb
    ((hB0.cell (p := ⟨b, off, none⟩) hb).trans hc0) ((hB0.cell (p := ⟨b, off + 1, none⟩) hb).trans hc1) ((hB0.cell (p := ⟨b, off + 2, none⟩) hb).trans hc2) ((hB0.cell (p := ⟨b, off + 3, none⟩) hb).trans hc3) ((hB0.cell (p := ⟨b, off + 4, none⟩) hb).trans hc4)
  refine callsIn_of_wp Tryz.func67 rfl h67 ?_ hro
  simp only [Tryz.ntmps67, List.size_toArray, List.length_cons, List.length_nil, Nat.reduceAdd, Nat.reduceSub, Array.replicate_succ, Array.replicate_zero, List.push_toArray, List.append_toArray, List.nil_append, List.cons_append]
  gi_wp2_with (gi_at_call 84; refine (Tryz.all84_in F (n - 1) h84 hro _ _ _ _).mono ?_; rintro e w' ⟨rfl, rfl⟩)
  refine hh.mono ?_
  rintro e w' ⟨rfl, hB⟩
  gi_wp2
  refine bodyPost_ret (v := .tuple #[.int .i64 0, .bool true]) (by simp [results, Tryz.f67, go_sem]) rfl ?_
  exact ⟨rfl, hB0.trans (hB.mono (by omega))⟩
end Go.Proofs

