/- What is proved: contracts of functions of this translation, walked; their plain meaning. No condition beyond those that each theorem names. -/
import Derived.Test.YtdalodgajiodhaaGreatDoorMa5
import Derived.Test.YtdalodgajiodhaaGreatDoorILw5
set_option linter.all false
namespace Go.Ac
open Go Go.Proofs
theorem R.sl_cases {β : Nat → Plc} {D I : Nat → Prop} {H : Array Obj} {m : Bool} {n : Nat} {l : List AV} {v : Value} (h : R β D I H m (.sl n l []) v) : ∃ a p q, v = .slice a p q := by
  cases h with
  | sl vs _ _ _ _ _ _ _ _ _ _ => exact ⟨_, _, _, rfl⟩
  | sl0 => exact ⟨_, _, _, rfl⟩
theorem one_read {β : Nat → Plc} {D I : Nat → Prop} {w : World} {x : JV} {v : Value} (hI : ∀ b, I b → b < w.heap.size) (h : R β D I w.heap false (.sl 5 [encV x] []) v) :
    ∃ b off cap, ∃ (k0 k1 : Int) (s2 : ByteArray) (a3 : Option Addr) (l3 p3 : Nat) (a4 : Option Addr) (l4 p4 : Nat), v = .slice (some ⟨b, off, none⟩) 1 cap ∧ b < w.heap.size ∧
      w.cell? ⟨b, off, none⟩ = some (.int .i64 k0) ∧ w.cell? ⟨b, off + 1, none⟩ = some (.int .i64 k1) ∧ w.cell? ⟨b, off + 2, none⟩ = some (.string s2) ∧ w.cell? ⟨b, off + 3, none⟩ = some (.slice a3 l3 p3) ∧ w.cell? ⟨b, off + 4, none⟩ = some (.slice a4 l4 p4) := by
  cases h with
  | @sl m n els rest a cap arr T fz vs hi hs hH hn1 hn2 hcap hmax hv hone harr =>
    obtain ⟨b, off, sp⟩ := a
    cases hs
    rw [show flats [encV x] ++ flats [] = [.val (.int .i64 x.kind), .val (.int .i64 x.int), .str x.text, .sl 1 (x.names.map AV.str) [], .sl 5 (x.items.map encV) []] from by rw [encV_eq]; rfl] at hv
    cases hv with
    | cons r0 hv =>
    cases hv with
    | cons r1 hv =>
    cases hv with
    | cons r2 hv =>
    cases hv with
    | cons r3 hv =>
    cases hv with
    | cons r4 hv =>
    cases hv
    cases r0; cases r1; cases r2
    obtain ⟨a3, l3, p3, rfl⟩ := r3.sl_cases
    obtain ⟨a4, l4, p4, rfl⟩ := r4.sl_cases
    have cell : ∀ (j : Nat) (u : Value), arr[off + j]? = some u → w.cell? ⟨b, off + j, none⟩ = some u := fun j u hu => by
      simp only [World.cell?]
      rw [hH]
      simpa using hu
    exact ⟨b, off, cap, _, _, _, a3, l3, p3, a4, l4, p4, rfl, hI b hi, cell 0 _ (harr 0 _ rfl), cell 1 _ (harr 1 _ rfl), cell 2 _ (harr 2 _ rfl), cell 3 _ (harr 3 _ rfl), cell 4 _ (harr 4 _ rfl)⟩
theorem r_chosen {β : Nat → Plc} {D I : Nat → Prop} {H : Array Obj} : R β D I H false (.tup [.val (.int .i64 0), .val (.bool true)]) (.tuple #[.int .i64 0, .bool true]) :=
  .tup (.cons (.val _ _) (.cons (.val _ _) (.nil _)))
theorem pure46 (W : World) (x : JV) : Pure Tryz.prog W 46 [.sl 5 [encV x] []] (.tup [.val (.int .i64 0), .val (.bool true)]) := fun β D I w vs hO hI hr => by
  cases hr with
  | cons r hr =>
  cases hr
  obtain ⟨b, off, cap, k0, k1, s2, a3, l3, p3, a4, l4, p4, rfl, hb, c0, c1, c2, c3, c4⟩ := one_read hI r
  refine (callsIn_wide.1 (Tryz.least46_in Fence.wide 4 trivial trivial trivial trivial rfl (by omega) b off cap k0 k1 s2 a3 l3 p3 a4 l4 p4 w hb c0 c1 c2 c3 c4)).mono ?_
  rintro e W' ⟨rfl, hB⟩
  exact ⟨I, _, rfl, r_chosen, ext_below hB (fun b hb => hI b hb)⟩
theorem pure47 (W : World) (x : JV) : Pure Tryz.prog W 47 [.sl 5 [encV x] []] (.tup [.val (.int .i64 0), .val (.bool true)]) := fun β D I w vs hO hI hr => by
  cases hr with
  | cons r hr =>
  cases hr
  obtain ⟨b, off, cap, k0, k1, s2, a3, l3, p3, a4, l4, p4, rfl, hb, c0, c1, c2, c3, c4⟩ := one_read hI r
  refine (callsIn_wide.1 (Tryz.greatest47_in Fence.wide 4 trivial trivial trivial trivial rfl (by omega) b off cap k0 k1 s2 a3 l3 p3 a4 l4 p4 w hb c0 c1 c2 c3 c4)).mono ?_
  rintro e W' ⟨rfl, hB⟩
  exact ⟨I, _, rfl, r_chosen, ext_below hB (fun b hb => hI b hb)⟩
end Go.Ac

