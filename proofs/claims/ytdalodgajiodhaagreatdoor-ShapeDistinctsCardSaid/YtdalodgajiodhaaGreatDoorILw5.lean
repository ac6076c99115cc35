/- What is proved: contracts of functions of this translation, walked; their plain meaning. No condition beyond those that each theorem names. -/
import Derived.Test.YtdalodgajiodhaaGreatDoorILw4
set_option linter.all false
namespace Go.Proofs
open Go.RowKit Go.Shelf
attribute [local go_sem] Oper.semAt_some
set_option maxRecDepth 100000
set_option maxHeartbeats 400000
theorem Tryz.least46_in (F : Fence) (n : Nat) (h46 : F.fn 46) (h78 : F.fn 78) (h77 : F.fn 77) (h98 : F.fn 98) (hro : F.round = none) (hn : 4 ≤ n) (b off cap : Nat) (k0 k1 : Int) (s2 : ByteArray) (a3 : Option Addr) (l3 p3 : Nat) (a4 : Option Addr) (l4 p4 : Nat)
    (w : World) (hb : b < w.heap.size)
    (hc0 : w.cell? ⟨b, off, none⟩ = some (.int .i64 k0)) (hc1 : w.cell? ⟨b, off + 1, none⟩ = some (.int .i64 k1)) (hc2 : w.cell? ⟨b, off + 2, none⟩ = some (.string s2)) (hc3 : w.cell? ⟨b, off + 3, none⟩ = some (.slice a3 l3 p3)) (hc4 : w.cell? ⟨b, off + 4, none⟩ = some (.slice a4 l4 p4)) :
    CallsIn F n Tryz.prog 46 #[.slice (some ⟨b, off, none⟩) 1 cap] w fun e W' => e = .returned (.tuple #[.int .i64 0, .bool true]) ∧ Below w.heap.size w W' := by
  have h1 : 1 ≤ n := by omega
  have hB0 : Below w.heap.size w (w.alloc (.cells #[.slice (some ⟨b, off, none⟩) 1 cap] 23)) := (Below.refl _ w).alloc (Nat.le_refl _) _
  have hsz : (w.alloc (.cells #[.slice (some ⟨b, off, none⟩) 1 cap] 23)).heap.size = w.heap.size + 1 := by simp
  have hcb : (w.alloc (.cells #[.slice (some ⟨b, off, none⟩) 1 cap] 23)).cell? ⟨w.heap.size, 0, none⟩ = some (.slice (some ⟨b, off, none⟩) 1 cap) := (Boxed.new w 23 (.slice (some ⟨b, off, none⟩) 1 cap)).cell
  have hh := Tryz.chosen77_in F (n - 1) h77 h98 hro (by omega) 79 w.heap.size w.heap.size b off cap k0 k1 s2 a3 l3 p3 a4 l4 p4 hb _ (by omega) (by omega) hcb
    ((hB0.cell (p := ⟨b, off, none⟩) hb).trans hc0) ((hB0.cell (p := ⟨b, off + 1, none⟩) hb).trans hc1) ((hB0.cell (p := ⟨b, off + 2, none⟩) hb).trans hc2) ((hB0.cell (p := ⟨b, off + 3, none⟩) hb).trans hc3) ((hB0.cell (p := ⟨b, off + 4, none⟩) hb).trans hc4)
  refine callsIn_of_wp Tryz.func46 rfl h46 ?_ hro
  simp only [Tryz.ntmps46, List.size_toArray, List.length_cons, List.length_nil, Nat.reduceAdd, Nat.reduceSub, Array.replicate_succ, Array.replicate_zero, List.push_toArray, List.append_toArray, List.nil_append, List.cons_append]
  gi_wp2_with (gi_at_call 78; refine (Tryz.all78_in F (n - 1) h78 hro _ _ _ _).mono ?_; rintro e w' ⟨rfl, rfl⟩)
  refine hh.mono ?_
  rintro e w' ⟨rfl, hB⟩
  gi_wp2
  refine bodyPost_ret (v := .tuple #[.int .i64 0, .bool true]) (by simp [results, Tryz.f46, go_sem]) rfl ?_
  exact ⟨rfl, hB0.trans (hB.mono (by omega))⟩
theorem Tryz.greatest47_in (F : Fence) (n : Nat) (h47 : F.fn 47) (h78 : F.fn 78) (h77 : F.fn 77) (h98 : F.fn 98) (hro : F.round = none) (hn : 4 ≤ n) (b off cap : Nat) (k0 k1 : Int) (s2 : ByteArray) (a3 : Option Addr) (l3 p3 : Nat) (a4 : Option Addr) (l4 p4 : Nat)
    (w : World) (hb : b < w.heap.size)
    (hc0 : w.cell? ⟨b, off, none⟩ = some (.int .i64 k0)) (hc1 : w.cell? ⟨b, off + 1, none⟩ = some (.int .i64 k1)) (hc2 : w.cell? ⟨b, off + 2, none⟩ = some (.string s2)) (hc3 : w.cell? ⟨b, off + 3, none⟩ = some (.slice a3 l3 p3)) (hc4 : w.cell? ⟨b, off + 4, none⟩ = some (.slice a4 l4 p4)) :
    CallsIn F n Tryz.prog 47 #[.slice (some ⟨b, off, none⟩) 1 cap] w fun e W' => e = .returned (.tuple #[.int .i64 0, .bool true]) ∧ Below w.heap.size w W' := by
  have h1 : 1 ≤ n := by omega
  have hB0 : Below w.heap.size w (w.alloc (.cells #[.slice (some ⟨b, off, none⟩) 1 cap] 23)) := (Below.refl _ w).alloc (Nat.le_refl _) _
  have hsz : (w.alloc (.cells #[.slice (some ⟨b, off, none⟩) 1 cap] 23)).heap.size = w.heap.size + 1 := by simp
  have hcb : (w.alloc (.cells #[.slice (some ⟨b, off, none⟩) 1 cap] 23)).cell? ⟨w.heap.size, 0, none⟩ = some (.slice (some ⟨b, off, none⟩) 1 cap) := (Boxed.new w 23 (.slice (some ⟨b, off, none⟩) 1 cap)).cell
  have hh := Tryz.chosen77_in F (n - 1) h77 h98 hro (by omega) 80 w.heap.size w.heap.size b off cap k0 k1 s2 a3 l3 p3 a4 l4 p4 hb _ (by omega) (by omega) hcb
    ((hB0.cell (p := ⟨b, off, none⟩) hb).trans hc0) ((hB0.cell (p := ⟨b, off + 1, none⟩) hb).trans hc1) ((hB0.cell (p := ⟨b, off + 2, none⟩) hb).trans hc2) ((hB0.cell (p := ⟨b, off + 3, none⟩) hb).trans hc3) ((hB0.cell (p := ⟨b, off + 4, none⟩) hb).trans hc4)
  refine callsIn_of_wp Tryz.func47 rfl h47 ?_ hro
  simp only [Tryz.ntmps47, List.size_toArray, List.length_cons, List.length_nil, Nat.reduceAdd, Nat.reduceSub, Array.replicate_succ, Array.replicate_zero, List.push_toArray, List.append_toArray, List.nil_append, List.cons_append]
  gi_wp2_with (gi_at_call 78; refine (Tryz.all78_in F (n - 1) h78 hro _ _ _ _).mono ?_; rintro e w' ⟨rfl, rfl⟩)
  refine hh.mono ?_
  rintro e w' ⟨rfl, hB⟩
  gi_wp2
  refine bodyPost_ret (v := .tuple #[.int .i64 0, .bool true]) (by simp [results, Tryz.f47, go_sem]) rfl ?_
  exact ⟨rfl, hB0.trans (hB.mono (by omega))⟩
end Go.Proofs

