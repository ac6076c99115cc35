/- What is proved: errors.As at a concrete target, as a contract with lent memory. No condition beyond those that each theorem names. -/
import Derived.Test.YtlppehancgjpbaaGreatDoorEe1
import Derived.Test.YtlppehancgjpbaaGreatDoorMa5
import Derived.OneCell
import Derived.Below
set_option linter.all false
set_option maxRecDepth 10000
namespace Go.Ac
open Go Go.Proofs Go.Proofs.YtlppehancgjpbaaGreatDoor

/-- The one variable that errors.As reads: errors' own type of errors. -/
def ErrT (W : World) : Prop := W.cell? ⟨0, 0, none⟩ = some (.iface 278 (.agg #[.pointer (some ⟨9, 107, none⟩)]))

theorem ErrT.over {W w : World} (h : ErrT W) (o : Over W w) : ErrT w := by
  unfold ErrT at *
  unfold World.cell? at *
  have h0 : 0 < W.heap.size := by
    rcases Nat.eq_zero_or_pos W.heap.size with h0 | h0
    · simp [h0] at h
    · exact h0
  simp only at h ⊢
  rw [o.heap 0 h0]; exact h

theorem as_mut {W : World} (hW : ErrT W) {h : List (Nat × GE)} {j k : Nat} (hbig : bigAll h = true) (hj : (hg h j).isSome = true) (hk : hg h k = some (.box (.val (.pointer none)) .own)) (hjk : j ≠ k) :
    MutC Tryz.prog W 111 [.ifc 182 (.gp j 0), .ifc 184 (.gp k 0)] h (.ret (.val (.bool true)) (hs h k (.box (.gp j 0) .own))) := by
  intro β I w vs hw hlB hi hR
  cases hR with
  | cons h1 h2 =>
  cases h2 with
  | cons h2 h3 =>
  cases h3
  cases h1 with
  | ifc h1 =>
  cases h1 with
  | gp d1 =>
  cases h2 with
  | ifc h2 =>
  cases h2 with
  | gp d2 =>
  have r0 := rep0H (N := 1) (args := []) (vs := []) hi (RL.nil true) (by simp) (bigAll_spec hbig)
  obtain ⟨us, U, g1, g2, g3, g4, g5, g6⟩ := hi.ge k _ hk
  have hnI := g6 (by simp)
  have hus : us = #[.pointer none] := by
    have g3' : RL β (dom (hg h)) I w.heap true [.val (.pointer none)] us.toList := g3
    generalize hl : us.toList = l at g3'
    cases g3' with
    | cons q1 q2 =>
      cases q2
      have := q1.val_inv
      subst this
      exact Array.ext' (by rw [hl])
  subst hus
  have hlt : (β k).b < w.heap.size := (Array.getElem?_eq_some_iff.1 g2).1
  have ht0 : w.cell? ⟨(β k).b, 0, none⟩ = some (.pointer none) := by simp [World.cell?, g2]
  have hf0 : w.frozen? ⟨(β k).b, 0, none⟩ = false := by simp [World.frozen?, g2]
  refine (as_hit ⟨(β j).b, 0, none⟩ ⟨(β k).b, 0, none⟩ _ w (hW.over hw) ht0 hf0).mono fun ev w' ⟨he, hw'⟩ => ?_
  subst hw'
  generalize hw4 : ((((w.alloc (.cells #[.pointer (some ⟨(β k).b, 0, none⟩)] 184)).alloc (.cells #[.pointer (some ⟨9, 184, none⟩), .pointer (some ⟨w.heap.size, 0, none⟩), .int .u64 150] 238)).alloc (.cells #[.pointer (some ⟨9, 184, none⟩), .pointer (some ⟨w.heap.size, 0, none⟩), .int .u64 150] 238)).alloc (.cells #[.pointer (some ⟨(β j).b, 0, none⟩)] 182)) = w4
  have x4 : Ext I I w w4 := by
    subst hw4
    refine ⟨fun b hb => ?_, by simp only [World.alloc, Array.size_push]; omega, rfl, rfl, rfl, fun b hb => hb, fun b hb => ⟨by have := hi.imm b hb; simp only [World.alloc, Array.size_push]; omega, fun _ => hb⟩⟩
    rw [(Adds.alloc _ _).old (by simp only [World.alloc, Array.size_push]; omega), (Adds.alloc _ _).old (by simp only [World.alloc, Array.size_push]; omega), (Adds.alloc _ _).old (by simp only [World.alloc, Array.size_push]; omega), (Adds.alloc _ _).old hb]
  have r1 := r0.ext (dst := none) (res := .top) (v := undef) x4 (fun d hd => by cases hd) (.top _ _)
  have g2' : w4.heap[(β k).b]? = some (.cells #[.pointer none] U (0, 0)) := (x4.heap _ hlt).trans g2
  have hone := one_setCell (u := .pointer (some ⟨(β j).b, 0, none⟩)) g2'
  have hT : Turns w4 (w4.setCell ⟨(β k).b, 0, none⟩ (.pointer (some ⟨(β j).b, 0, none⟩))) (β k).b :=
    ⟨fun i hne => Go.RowKit.Below.heap_setCell w4 _ _ i hne, by simp [World.setCell], rfl, rfl, rfl⟩
  have r2 := r1.modify (k := k) (g' := .box (.gp j 0) .own) (dst := none) (X := .top) (v := undef) hk hT (fun d hd => by cases hd) hnI trivial trivial (fun x => not_compat_box) (by simp [GE.st]) (fun K => by
    refine ⟨#[.pointer (some ⟨(β j).b, 0, none⟩)], U, g1, hone, ?_, ?_, (fun e => by cases e), fun _ => hnI⟩
    · refine .cons (.gp ?_) (.nil _)
      simp only [dom]
      rw [hput_ne _ _ hjk]; exact hj
    · intro u hu; simp at hu; subst hu; rfl) (fun K => .top _ _)
  have e1 : hput (hg h) k (some (.box (.gp j 0) .own)) = hg (hs h k (.box (.gp j 0) .own)) := by
    funext i; rw [hg_hs]; simp only [hput]
  have inv2 := r2.inv
  obtain ⟨f1, f2, f3, f4, f5, f6, f7, f8, f9⟩ := r2.fr
  have e2 : (SS.mk (tset (tset (AS.mk (argT 0 []) h).den.t none .top) none .top) (hput (AS.mk (argT 0 []) h).den.h k (some (.box (.gp j 0) .own)))).h = hg (hs h k (.box (.gp j 0) .own)) := e1
  rw [e2] at inv2
  refine ⟨β, I, .bool true, he, .val _ _, inv2, ⟨f1, f2, f3, f4, f5, f6, f7, ?_, ?_⟩⟩
  · intro i g hi1; exact f8 i g ((congrFun e1 i).trans hi1)
  · intro i p hp; obtain ⟨q1, q2, q3⟩ := f9 i p hp; exact ⟨q1, (congrArg Option.isSome (congrFun e1 i)).symm.trans q2, q3⟩

theorem as_none {W : World} {h : List (Nat × GE)} {t : AV} (hbig : bigAll h = true) :
    MutC Tryz.prog W 111 [.val .nilIface, t] h (.ret (.val (.bool false)) h) := by
  intro β I w vs hw hlB hi hR
  cases hR with
  | cons h1 h2 =>
  cases h2 with
  | cons h2 h3 =>
  cases h3
  have := h1.val_inv
  subst this
  rename_i v2
  refine (as_nil v2 w).mono fun ev w' ⟨he, hw'⟩ => ?_
  subst hw'
  have r0 := rep0H (N := 1) (args := []) (vs := []) hi (RL.nil true) (by simp) (bigAll_spec hbig)
  obtain ⟨f1, f2, f3, f4, f5, f6, f7, f8, f9⟩ := r0.fr
  exact ⟨β, I, .bool false, he, .val _ _, hi, ⟨f1, f2, f3, f4, f5, f6, f7, f8, f9⟩⟩

end Go.Ac

