/- What is proved: contracts of functions of this translation, walked; their plain meaning. No condition beyond those that each theorem names. -/
import Derived.Test.YtjpaecoehajfdaaDoorKt1
import Derived.Test.YtjpaecoehajfdaaDoorTrydJoin
set_option linter.all false
namespace Go.Ab
open Go Go.Proofs Go.RowKit

theorem flats_str : ∀ p : List (List UInt8), flats (p.map AV.str) = p.map AV.str
  | [] => rfl
  | x :: p => by rw [List.map_cons, flats, flats_str p]; rfl

/-- How a list of texts lies in memory. -/
theorem strs_read {β : Nat → Plc} {D I : Nat → Prop} {w : World} {p : List (List UInt8)} {v : Value} (hI : ∀ b, I b → b < w.heap.size) (h : R β D I w.heap false (.sl 1 (p.map AV.str) []) v) :
    (p = [] ∧ ∃ a c, v = .slice a 0 c) ∨ ∃ b off cap, v = .slice (some ⟨b, off, none⟩) p.length cap ∧ b < w.heap.size ∧ p.length ≤ cap ∧
      ∀ (j : Nat) (x : List UInt8), p[j]? = some x → w.cell? ⟨b, off + j, none⟩ = some (.string ⟨x.toArray⟩) := by
  generalize hl : p.map AV.str = l at h
  cases h with
  | @sl m n els rest a cap arr T fz vs hi hs hH hn1 hn2 hcap hmax hv hone harr =>
    subst hl
    obtain ⟨b, off, sp⟩ := a
    cases hs
    refine .inr ⟨b, off, cap, by rw [List.length_map], hI b hi, by simpa using hcap, fun j x hx => ?_⟩
    rw [flats_str, show flats [] = [] from rfl, List.append_nil] at hv
    obtain ⟨u, h1, h2⟩ := hv.get' j (.str x) (by rw [List.getElem?_map, hx]; rfl)
    cases h2
    simp only [World.cell?]
    rw [hH]
    simpa using harr j _ h1
  | @sl0 m n base => exact .inl ⟨by simpa using hl, base, 0, rfl⟩
theorem data_toList (p : List (List UInt8)) : (p.map fun x => (⟨x.toArray⟩ : ByteArray)).map (·.data.toList) = p := by
  rw [List.map_map]
  conv => rhs; rw [← List.map_id p]
  apply List.map_congr_left
  intro x _
  simp

theorem join61 (W : World) (p : List (List UInt8)) (sep : List UInt8) (hp : p.length ≤ 140737488355328) (hlen : (Lib.join p sep).length ≤ 140737488355328) :
    Pure Tryd.prog W 61 [.sl 1 (p.map AV.str) [], .str sep] (.str (Lib.join p sep)) := fun β D I w vs hO hI hr => by
  cases hr with
  | cons r1 hr =>
  cases hr with
  | cons r2 hr =>
  cases hr
  cases r2
  rcases strs_read hI r1 with ⟨rfl, a, c, rfl⟩ | ⟨b, off, cap, rfl, hb, hcap, hcell⟩
  · refine (Tryd.strings_Join_none a c ⟨sep.toArray⟩ w).mono ?_
    rintro e w' ⟨rfl, rfl⟩
    exact ⟨I, _, rfl, .str _ _, ext_below (Below.refl _ _) hI⟩
  · have h := Tryd.strings_Join b off cap (p.map fun x => ⟨x.toArray⟩) ⟨sep.toArray⟩ w (fun j x hx => by
      rw [List.getElem?_map] at hx
      cases hq : p[j]? with
      | none => rw [hq] at hx; cases hx
      | some y => rw [hq] at hx; cases hx; exact hcell j y hq) hb (by rw [List.length_map]; exact hp) (by rw [List.length_map]; exact hcap) (by rw [data_toList]; simpa using hlen)
    rw [List.length_map, data_toList] at h
    refine Calls.mono h ?_
    rintro e w' ⟨rfl, hB⟩
    refine ⟨I, _, rfl, ?_, ext_below hB hI⟩
    simp only [List.toList_toArray]
    exact .str _ _

/-- The text of a path; and its error. -/
def printS (p : List (List UInt8)) : List UInt8 := if pathB p then Lib.join p [46] else []
def printE (p : List (List UInt8)) : Int := if pathB p then 0 else 20
theorem lens_seg : ∀ (p : List (List UInt8)), (∀ s ∈ p, s.length ≤ 64) → Lib.lens p ≤ 64 * p.length
  | [], _ => by simp [Lib.lens]
  | s :: p, h => by
    have := lens_seg p fun x hx => h x (by simp [hx])
    have := h s (by simp)
    simp only [Lib.lens, List.map_cons, List.sum_cons, List.length_cons] at *; omega
theorem joinTail_len (sep : List UInt8) : ∀ r : List (List UInt8), (Lib.joinTail sep r).length = sep.length * r.length + Lib.lens r
  | [] => by simp [Lib.joinTail, Lib.lens]
  | x :: r => by
    have := joinTail_len sep r
    simp only [Lib.joinTail, Lib.lens, List.map_cons, List.flatten_cons, List.length_append, List.sum_cons, List.length_cons] at *
    rw [this, Nat.mul_succ]; omega
theorem segB_len {s : List UInt8} (h : segB s = true) : s.length ≤ 64 := by
  cases s with
  | nil => simp
  | cons c s =>
    rw [segB_cons] at h
    simp only [Bool.and_eq_true, decide_eq_true_eq] at h
    simp only [List.length_cons]
    omega
end Go.Ab

