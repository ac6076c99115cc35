/- What is proved: contracts of functions of this translation, walked; their plain meaning. No condition beyond those that each theorem names. -/
import Derived.Test.YtdalodgajiodhaaGreatDoorMa6
set_option linter.all false
namespace Go.Ac
open Go
section
variable {P : Program} {W : World} {f : FuncId}
theorem mut_nameA {k1 k2 n c : Nat} {e : TypeId} {x y : List AV} {r : AV} {rest : List AV} (hk2 : 100000 ≤ k2) (hxf : cloL (flats x) = true) (hyf : cloL (flats y) = true) (hr : r.clo = true) (hrest : cloL rest = true)
    (h : MutC P W f (.gs k1 0 n :: rest) [(k1, .arr e c x .own)] (.ret r [(k1, .arr e c y .own)])) : MutC P W f (.gs k2 0 n :: rest) [(k2, .arr e c x .own)] (.ret r [(k2, .arr e c y .own)]) := by
  intro β I w vs hw hlB hi hR
  have hlb : ∀ b, lentB (fun _ => β k2) [(k1, .arr e c x .own)] b → lentB β [(k2, .arr e c x .own)] b := by
    rintro b ⟨k, g, hk, hb, hs, he⟩
    obtain ⟨_, rfl⟩ := hg_one hk
    exact ⟨k2, _, hg_self, hb, hs, he⟩
  have hlb' : ∀ b, lentB β [(k2, .arr e c x .own)] b → lentB (fun _ => β k2) [(k1, .arr e c x .own)] b := by
    rintro b ⟨k, g, hk, hb, hs, he⟩
    obtain ⟨rfl, rfl⟩ := hg_one hk
    exact ⟨k1, _, hg_self, hb, hs, he⟩
  have hi1 : Inv (fun _ => β k2) I (hg [(k1, .arr e c x .own)]) w.heap := by
    refine ⟨fun k g hk => ?_, hi.imm, fun k k' g g' hne h1 h2 => ?_⟩
    · obtain ⟨_, rfl⟩ := hg_one hk
      obtain ⟨g1, g2, g3, g4⟩ := hi.ge k2 _ hg_self
      refine ⟨g1, g2, g3, ?_⟩
      rcases g4 with g4 | ⟨j1, us, j2, j3, j4, j5, j6, j7, j8⟩
      · exact .inl g4
      · exact .inr ⟨j1, us, j2, j3, j4, (j5.clo hxf).closed (fun b hb => ⟨hb, rfl⟩) rfl true, j6, j7, j8⟩
    · obtain ⟨rfl, _⟩ := hg_one h1
      obtain ⟨rfl, _⟩ := hg_one h2
      exact absurd rfl hne
  have hR1 : RL (fun _ => β k2) (dom (hg [(k1, .arr e c x .own)])) I w.heap true (.gs k1 0 n :: rest) vs := by
    cases hR with
    | cons h1 h2 =>
      refine .cons ?_ ((h2.clo hrest).closed (fun b hb => ⟨hb, rfl⟩) rfl true)
      cases h1 with
      | gs hD q1 q2 q3 => exact .gs (β := fun _ => β k2) (k := k1) (i := 0) (show dom (hg [(k1, GE.arr e c x .own)]) k1 by simp [dom, hg]) q1 q2 q3
  refine (h _ I w vs hw (fun b hb => hlB b (hlb b hb)) hi1 hR1).mono fun e1 w' ⟨β', I', v, q1, q2, q3, q4⟩ => ?_
  obtain ⟨f1, f2, f3, f4, f5, f6, f7, f8, f9⟩ := q4
  have hp := (f9 k1 (β k2) (by simp [lentE, hg])).2.2
  obtain ⟨g1, g2, g3, g4⟩ := q3.ge k1 _ hg_self
  rw [hp] at g1 g4
  refine ⟨β, I', v, q1, (q2.clo hr).closed (fun b hb => ⟨hb, rfl⟩) rfl true, ⟨fun k g hk => ?_, q3.imm, fun k k' g g' hne h1 h2 => ?_⟩, ⟨f1, f2, f3, f4, (fun b hb hn => f5 b hb fun hl => hn (hlb b hl)), f6, (fun b hb hlt => (f7 b hb hlt).imp id (hlb b)), (fun k g hk hbk hs => ?_), fun k p hk => ?_⟩⟩
  · obtain ⟨rfl, rfl⟩ := hg_one hk
    refine ⟨g1, g2, g3, ?_⟩
    rcases g4 with g4 | ⟨j1, us, j2, j3, j4, j5, j6, j7, j8⟩
    · exact .inl g4
    · exact .inr ⟨j1, us, j2, j3, j4, (j5.clo hyf).closed (fun b hb => ⟨hb, rfl⟩) rfl true, j6, j7, j8⟩
  · obtain ⟨rfl, _⟩ := hg_one h1
    obtain ⟨rfl, _⟩ := hg_one h2
    exact absurd rfl hne
  · obtain ⟨rfl, rfl⟩ := hg_one hk
    have := f8 k1 _ hg_self (show (β' k1).z ≠ 0 by rw [hp]; exact hbk) hs
    rw [hp] at this
    exact this.imp id (hlb _)
  · have hk' : (if (hg [(k2, GE.arr e c x .own)] k).isSome = true then some (β k) else none) = some p := hk
    split at hk'
    · rename_i hs
      obtain ⟨g, hgk⟩ := Option.isSome_iff_exists.1 hs
      obtain ⟨rfl, _⟩ := hg_one hgk
      cases hk'
      exact ⟨hk2, by show (hg [(_, GE.arr e c y .own)] _).isSome = true; rw [hg_self]; rfl, rfl⟩
    · cases hk'
end
end Go.Ac

