/- What is proved: how the arguments of the laws read; a start in which the listed variables hold what the program lays. No condition. -/
import Derived.Test.YtjpaecoehajfdaaDoorMa4
import Derived.Test.YtjpaecoehajfdaaDoorTt6
import Derived.Test.YtjpaecoehajfdaaDoorCards
import Derived.Test.YtjpaecoehajfdaaDoorTie
import Derived.OpenShut
import Derived.Deep.DeepHandedRow
import Derived.Deep.DeepWitnessRowRef
import Derived.LaidMore
set_option linter.all false
set_option maxRecDepth 100000
namespace Go.Ab
open Go Go.Proofs Go.RowKit Go.Proofs.YtjpaecoehajfdaaDoor

section
variable {H : Type} {enc : TypeId × Value → H} {w : World} {held : Bool}

theorem RdF.mono {P : Program} {n : Nat} {t : TypeId} {K K' : AV → Prop} (h : RdF enc P w held n t K) (hk : ∀ a, K a → K' a) : RdF enc P w held n t K' := fun cs d ps h1 h2 => by
  obtain ⟨a, q1, q2⟩ := h cs d ps h1 h2
  exact ⟨a, hk a q1, q2⟩

def IsVal (a : AV) : Prop := ∃ v : JV, a = encV v ∧ okV v
def IsPath (a : AV) : Prop := ∃ p : List (List UInt8), a = .sl 1 (p.map AV.str) [] ∧ p.length ≤ 8796093021952 ∧ ∀ s ∈ p, s.length ≤ 2 ^ 50

theorem isVal_of {l : List AV} (h : KsOf [IsInt .i64, IsInt .i64, IsStr, IsPath, IsSl Tryd.prog 25 IsVal] l) : IsVal (.agg (flats l)) := by
  cases h with
  | cons k0 h => cases h with
    | cons k1 h => cases h with
      | cons k2 h => cases h with
        | cons k3 h => cases h with
          | cons k4 h => cases h with
            | nil =>
              obtain ⟨n0, rfl, _⟩ := k0
              obtain ⟨n1, rfl, _⟩ := k1
              obtain ⟨s, rfl, _⟩ := k2
              obtain ⟨p, rfl, hp, _⟩ := k3
              obtain ⟨els, rfl, he, hl⟩ := k4
              have hv : ∀ els : List AV, (∀ x ∈ els, IsVal x) → ∃ l : List JV, els = l.map encV ∧ okVs l := by
                intro els
                induction els with
                | nil => intro _; exact ⟨[], rfl, trivial⟩
                | cons x els ih =>
                  intro h
                  obtain ⟨v, rfl, hv⟩ := h x (by simp)
                  obtain ⟨l, rfl, hl⟩ := ih fun y hy => h y (by simp [hy])
                  exact ⟨v :: l, rfl, hv, hl⟩
              obtain ⟨l, rfl, ho⟩ := hv els he
              have hb : Tryd.prog.bytesOf 25 = 80 := by kernel_rfl
              have hc : Tryd.prog.cellsOf 25 = 5 := by kernel_rfl
              refine ⟨.mk ⟨n0, n1, s, p⟩ l, ?_, by simp only; omega, ?_, ho⟩
              · rw [encV_mk, hc]; rfl
              · rw [hb] at hl; unfold reachBytes at hl; simp only [List.length_map] at hl; omega

theorem isPath_of {a : AV} (h : IsSl Tryd.prog 9 IsStr a) : IsPath a := by
  obtain ⟨els, rfl, he, hl⟩ := h
  have hv : ∀ els : List AV, (∀ x ∈ els, IsStr x) → ∃ p : List (List UInt8), els = p.map AV.str ∧ ∀ s ∈ p, s.length ≤ 2 ^ 50 := by
    intro els
    induction els with
    | nil => intro _; exact ⟨[], rfl, by simp⟩
    | cons x els ih =>
      intro h
      obtain ⟨s, rfl, hs⟩ := h x (by simp)
      obtain ⟨p, rfl, hp⟩ := ih fun y hy => h y (by simp [hy])
      refine ⟨s :: p, rfl, fun y hy => ?_⟩
      rcases List.mem_cons.1 hy with rfl | hy
      · unfold reachBytes at hs; omega
      · exact hp y hy
  obtain ⟨p, rfl, hp⟩ := hv els he
  have hb : Tryd.prog.bytesOf 9 = 16 := by kernel_rfl
  have hc : Tryd.prog.cellsOf 9 = 1 := by kernel_rfl
  refine ⟨p, by rw [hc], ?_, hp⟩
  rw [hb] at hl; unfold reachBytes at hl; simp only [List.length_map] at hl; omega

theorem rd_path (n : Nat) : RdF enc Tryd.prog w held n 22 IsPath :=
  (rd_slice Tryd.underlying22 (by kernel_rfl) (of_decide_eq_true (by kernel_rfl)) fun m _ => rd_str Tryd.underlying9 (by kernel_rfl)).mono fun _ => isPath_of

theorem rd_val : ∀ n : Nat, RdF enc Tryd.prog w held n 25 IsVal := by
  intro n
  induction n using Nat.strongRecOn with
  | _ n ih =>
    refine (rd_struct (Ks := [IsInt .i64, IsInt .i64, IsStr, IsPath, IsSl Tryd.prog 25 IsVal]) Tryd.underlying25 (by kernel_rfl) (by kernel_rfl) rfl fun m hm i u K hu hK => ?_).mono fun a ⟨l, e, h⟩ => e ▸ isVal_of h
    match i, hu, hK with
    | 0, hu, hK => cases hu; cases hK; exact rd_int Tryd.underlying3 (by kernel_rfl)
    | 1, hu, hK => cases hu; cases hK; exact rd_int Tryd.underlying2 (by kernel_rfl)
    | 2, hu, hK => cases hu; cases hK; exact rd_str Tryd.underlying9 (by kernel_rfl)
    | 3, hu, hK => cases hu; cases hK; exact rd_path m
    | 4, hu, hK => cases hu; cases hK; exact rd_slice Tryd.underlying23 (by kernel_rfl) (of_decide_eq_true (by kernel_rfl)) fun q hq => ih q (by omega)
    | i + 5, hu, hK => simp at hK
end

/-- The listed variables as the program lays them. -/
noncomputable def startW (os : Os) : World :=
  { World.doorLaid Tryd.prog 72 os with heap := (World.doorLaid Tryd.prog 72 os).heap.modify 4 fun
      | .cells _ t frozen => .cells (Go.Pinned.utf8FirstZ.map fun n : Nat => Value.int .u8 n).toArray t frozen
      | o => o }

theorem laid_met (os : Os) (args : Array Value) : laidMetH Tryd.prog Rows.dotpathLooksRow.laid ((startW os).forCall (fun _ _ => 0) ⟨#[], args, []⟩).memory :=
  laidMet_of_run' 8 (by kernel_rfl) (by kernel_rfl)

end Go.Ab

