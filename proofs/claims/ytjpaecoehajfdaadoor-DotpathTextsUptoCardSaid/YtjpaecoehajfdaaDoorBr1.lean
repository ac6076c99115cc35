/- What is proved: how the arguments of the laws read; a start in which the listed variables hold what the program lays. No condition. -/
import Derived.Test.YtjpaecoehajfdaaDoorMa4
import Derived.Test.YtjpaecoehajfdaaDoorTt6
import Derived.Test.YtjpaecoehajfdaaDoorCards
import Derived.Test.YtjpaecoehajfdaaDoorTie
import Derived.OpenShut
import Derived.Deep.DeepHandedRow
import Derived.Deep.DeepWitnessRowRef
import Derived.LaidMore
set_option linter.all false
set_option maxRecDepth 100000
namespace Go.Ab
open Go Go.Proofs Go.RowKit Go.Proofs.YtjpaecoehajfdaaDoor

section
variable {H : Type} {enc : TypeId × Value → H} {w : World} {held : Bool}

theorem RdF.mono {P : Program} {n : Nat} {t : TypeId} {K K' : AV → Prop} (h : RdF enc P w held n t K) (hk : ∀ a, K a → K' a) : RdF enc P w held n t K' := fun cs d ps h1 h2 => by
  obtain ⟨a, q1, q2⟩ := h cs d ps h1 h2
  exact ⟨a, hk a q1, q2⟩

def IsPath (a : AV) : Prop := ∃ p : List (List UInt8), a = .sl 1 (p.map AV.str) [] ∧ p.length ≤ 8796093021952 ∧ ∀ s ∈ p, s.length ≤ 2 ^ 50

theorem isPath_of {a : AV} (h : IsSl Tryd.prog 9 IsStr a) : IsPath a := by
  obtain ⟨els, rfl, he, hl⟩ := h
  have hv : ∀ els : List AV, (∀ x ∈ els, IsStr x) → ∃ p : List (List UInt8), els = p.map AV.str ∧ ∀ s ∈ p, s.length ≤ 2 ^ 50 := by
    intro els
    induction els with
    | nil => intro _; exact ⟨[], rfl, by simp⟩
    | cons x els ih =>
      intro h
      obtain ⟨s, rfl, hs⟩ := h x (by simp)
      obtain ⟨p, rfl, hp⟩ := ih fun y hy => h y (by simp [hy])
      refine ⟨s :: p, rfl, fun y hy => ?_⟩
      rcases List.mem_cons.1 hy with rfl | hy
      · unfold reachBytes at hs; omega
      · exact hp y hy
  obtain ⟨p, rfl, hp⟩ := hv els he
  have hb : Tryd.prog.bytesOf 9 = 16 := by kernel_rfl
  have hc : Tryd.prog.cellsOf 9 = 1 := by kernel_rfl
  refine ⟨p, by rw [hc], ?_, hp⟩
  rw [hb] at hl; unfold reachBytes at hl; simp only [List.length_map] at hl; omega

theorem rd_path (n : Nat) : RdF enc Tryd.prog w held n 22 IsPath :=
  (rd_slice Tryd.underlying22 (by kernel_rfl) (of_decide_eq_true (by kernel_rfl)) fun m _ => rd_str Tryd.underlying9 (by kernel_rfl)).mono fun _ => isPath_of

end

/-- The listed variables as the program lays them. -/
noncomputable def startW (os : Os) : World :=
  { World.doorLaid Tryd.prog 72 os with heap := (World.doorLaid Tryd.prog 72 os).heap.modify 4 fun
      | .cells _ t frozen => .cells (Go.Pinned.utf8FirstZ.map fun n : Nat => Value.int .u8 n).toArray t frozen
      | o => o }

theorem laid_met (os : Os) (args : Array Value) : laidMetH Tryd.prog Rows.dotpathLooksRow.laid ((startW os).forCall (fun _ _ => 0) ⟨#[], args, []⟩).memory :=
  laidMet_of_run' 8 (by kernel_rfl) (by kernel_rfl)

end Go.Ab

