/- What is proved: contracts of functions of this translation, walked; their plain meaning. No condition beyond those that each theorem names. -/
import Derived.Test.YtohlmhkiejpkgaaGreatDoorMa6
set_option linter.all false
namespace Go.Ac
open Go
theorem sub_dead {σ : SS} {h2 : Nat → Option GE} (hh : ∀ i, h2 i = σ.h i ∨ ((σ.h i).isSome = true ∧ h2 i = some .dead)) : Sub σ ⟨σ.t, h2⟩ := by
  rintro E a w ⟨β, I, r⟩
  have hd : dom h2 = dom σ.h := by
    funext i
    rcases hh i with e | ⟨e1, e2⟩
    · simp [dom, e]
    · simp [dom, e1, e2]
  refine ⟨β, I, fun i => ?_, ⟨fun i g hi => ?_, r.inv.imm, ?_⟩, ?_, r.size, r.defers⟩
  · show R β (dom h2) _ _ _ _ _
    rw [hd]; exact r.tmps i
  · show GEok β (dom h2) _ _ _ _
    rw [hd]
    rcases hh i with e | ⟨e1, e2⟩
    · exact r.inv.ge i g (by rw [← e]; exact hi)
    · have : h2 i = some g := hi
      rw [e2] at this; cases this; trivial
  · intro i i' g g' hne h1 h2' b1 b2 hb
    rcases hh i with e | ⟨e1, e2⟩
    · rcases hh i' with e' | ⟨e1', e2'⟩
      · exact r.inv.sep i i' g g' hne (by rw [← e]; exact h1) (by rw [← e']; exact h2') b1 b2 hb
      · have : h2 i' = some g' := h2'
        rw [e2'] at this; cases this; exact b2.elim
    · have : h2 i = some g := h1
      rw [e2] at this; cases this; exact b1.elim
  · obtain ⟨f1, f2, f3, f4, f5, f6, f7, f8, f9⟩ := r.fr
    refine ⟨f1, f2, f3, f4, f5, f6, f7, fun k g hk => ?_, fun k p hp => ?_⟩
    · rcases hh k with e | ⟨e1, e2⟩
      · exact f8 k g (by rw [← e]; exact hk)
      · have : h2 k = some g := hk
        rw [e2] at this; cases this
        intro hb; exact hb.elim
    · obtain ⟨p1, p2, p3⟩ := f9 k p hp
      have p4 : dom h2 k := by rw [hd]; exact p2
      exact ⟨p1, p4, p3⟩
theorem mut_close {P : Program} {W : World} {f : FuncId} {As : List AV} {k n : Nat} {e : TypeId} {els : List AV} {g0 : GE} {r r2 : AV} (hM : MutC P W f As [(k, g0)] (.ret r [(k, .arr e n els .own)])) (hc : cloL els = true) (he : clA [(k, .arr e n els .own)] r = r2) :
    MutC P W f As [(k, g0)] (.ret r2 [(k, .dead)]) := by
  have h1 := mut_frz [(k, .arr e n els .own)] hM (by
    intro p hp
    simp only [List.mem_cons, List.not_mem_nil, or_false] at hp
    subst hp
    exact ⟨by simp [hg], hc⟩)
  rw [he] at h1
  refine mut_sub h1 (sub_dead (σ := retS r2 _) (h2 := hg [(k, .dead)]) fun i => ?_) (by simp [retS]) rfl
  show hg [(k, GE.dead)] i = hg (frzL1 _ [(k, _)]) i ∨ _
  by_cases hi : k = i
  · subst hi; right; exact ⟨by simp [retS, frzL1, hg], by simp [hg]⟩
  · left; simp [frzL1, hg, hi]
end Go.Ac

