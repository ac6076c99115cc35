/- What is proved: contracts of functions of this translation, walked; their plain meaning. No condition beyond those that each theorem names. -/
import Derived.Test.YtdalodgajiodhaaGreatDoorILw2
set_option linter.all false
namespace Go.Proofs
open Go.RowKit Go.Shelf
theorem Tryz.all98_stops (F : Fence) (n : Nat) (h8 : F.fn 98) (hro : F.round = none) (hn : 1 ≤ n) (Bs n₀ b off cap : Nat) (k0 k1 : Int) (s2 : ByteArray) (a3 : Option Addr) (l3 p3 : Nat) (a4 : Option Addr) (l4 p4 : Nat) (hb : b < n₀)
    (w : World) (hBs : Bs < w.heap.size) (hn₀ : n₀ ≤ w.heap.size) (hc : w.cell? ⟨Bs, 0, none⟩ = some (.slice (some ⟨b, off, none⟩) 1 cap))
    (hc0 : w.cell? ⟨b, off, none⟩ = some (.int .i64 k0)) (hc1 : w.cell? ⟨b, off + 1, none⟩ = some (.int .i64 k1)) (hc2 : w.cell? ⟨b, off + 2, none⟩ = some (.string s2)) (hc3 : w.cell? ⟨b, off + 3, none⟩ = some (.slice a3 l3 p3)) (hc4 : w.cell? ⟨b, off + 4, none⟩ = some (.slice a4 l4 p4)) :
    SeqStopsK F n Tryz.prog 98 #[.pointer (some ⟨Bs, 0, none⟩)] (fun _ : Unit => #[Value.int .i64 0, .agg #[.int .i64 k0, .int .i64 k1, .string s2, .slice a3 l3 p3, .slice a4 l4 p4]]) (Below n₀) (fun ys => ys.length = 1) (fun pre => pre.length ≤ 1) 1 w := fun l J Jx W hW hJ _ hY h0 => by
  have hbw : b < w.heap.size := Nat.lt_of_lt_of_le hb hn₀
  exact Tryz.all98_in F n h8 hro hn l Bs n₀ b off cap k0 k1 s2 a3 l3 p3 a4 l4 p4 hb J Jx hY
    (fun pre W o hs _ => hJ _ _ _ none hs (World.grownBy_alloc W o none) (fun r e => by cases e)) W (Nat.le_trans hn₀ hW.size)
    ((hW.cell (p := ⟨Bs, 0, none⟩) hBs).trans hc) ((hW.cell (p := ⟨b, off, none⟩) hbw).trans hc0) ((hW.cell (p := ⟨b, off + 1, none⟩) hbw).trans hc1) ((hW.cell (p := ⟨b, off + 2, none⟩) hbw).trans hc2) ((hW.cell (p := ⟨b, off + 3, none⟩) hbw).trans hc3) ((hW.cell (p := ⟨b, off + 4, none⟩) hbw).trans hc4) h0
end Go.Proofs

