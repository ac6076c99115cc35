/- What is proved: contracts of functions of this translation, walked; their plain meaning. No condition beyond those that each theorem names. -/
import Derived.Test.YtdalodgajiodhaaGreatDoorIs1
set_option linter.all false
namespace Go.Ac
open Go Go.Proofs
set_option maxRecDepth 10000
set_option maxHeartbeats 1000000
section
variable (W : World) {lt : Doc → Doc → Bool} (hcmp : CmpC W lt)
theorem blkG_len (lt : Doc → Doc → Bool) (n : Nat) : ∀ (f a : Nat) (D : List Doc), (blkG lt n f a D).2.length = D.length
  | 0, _, _ => rfl
  | f + 1, a, D => by
    rw [blkG]
    split
    · rw [blkG_len lt n f, insO_len]
    · rfl
theorem blkG_le (lt : Doc → Doc → Bool) (n : Nat) : ∀ (f a : Nat) (D : List Doc), a ≤ n → (blkG lt n f a D).1 ≤ n
  | 0, _, _, h => h
  | f + 1, a, D, h => by
    rw [blkG]
    split
    · exact blkG_le lt n f _ _ (by omega)
    · exact h
theorem mrgG_len (lt : Doc → Doc → Bool) (n bs : Nat) : ∀ (f a : Nat) (D : List Doc), (mrgG lt n bs f a D).2.length = D.length
  | 0, _, _ => rfl
  | f + 1, a, D => by
    rw [mrgG]
    split
    · rw [mrgG_len lt n bs f, symM_len]
    · rfl
theorem mrgG_le (lt : Doc → Doc → Bool) (n bs : Nat) : ∀ (f a : Nat) (D : List Doc), a ≤ n → (mrgG lt n bs f a D).1 ≤ n
  | 0, _, _, h => h
  | f + 1, a, D, h => by
    rw [mrgG]
    split
    · exact mrgG_le lt n bs f _ _ (by omega)
    · exact h
theorem lvlG_len (lt : Doc → Doc → Bool) (n bs : Nat) (D : List Doc) : (lvlG lt n bs D).length = D.length := by
  unfold lvlG
  dsimp only
  split
  · rw [symM_len, mrgG_len]
  · rw [mrgG_len]
include hcmp
theorem loopSt0 (n : Nat) : ∀ (f a : Nat) (D : List Doc), n = D.length → D.length ≤ 2 ^ 40 → n ≤ f + a → a ≤ n →
    LoopC Tryz.prog W [100000] (nslots Tryz.prog 74) (loopOf Tryz.prog 74 0) (Sst0 D n 20 a (a + 20)) (.exit 0) ⟨[(0, .gs 100000 0 (blkG lt n f a D).2.length), (1, iA n), (2, cmS), (6, iA 20), (7, iA ((blkG lt n f a D).1 : Nat))], arrD (blkG lt n f a D).2⟩ := by
  intro f
  induction f with
  | zero =>
    intro a D hn hD hf han
    exact loop_last (by simp) (body_of_sbodyK mixedz (st0_1 W D a (a + 20) n 20) So_z2 [] [] So_z1)
  | succ f ih =>
    intro a D hn hD hf han
    rw [blkG]
    by_cases q : a + 20 ≤ n
    case neg =>
      rw [if_neg q]
      exact loop_last (by simp) (body_of_sbodyK mixedz (st0_1 W D a (a + 20) n 20) So_z2 [] [] So_z1)
    rw [if_pos q]
    have hM := insM W hcmp D a (a + 20) D.length rfl (by omega) hD (by omega)
    rw [show a + 20 - (a + 1) = 20 - 1 by omega] at hM
    have hl := insO_len lt a (20 - 1) (a + 1) D
    have nx := ih (a + 20) (insO lt a (20 - 1) (a + 1) D) (by omega) (by omega) (by omega) (by omega)
    generalize insO lt a (20 - 1) (a + 1) D = D2 at hM hl nx ⊢
    have hgl := hl.symm
    have hws : IntKind.i64.wrap (((a + 20 : Nat) : Int) + ((20 : Nat) : Int)) = ((a + 20 + 20 : Nat) : Int) := wrapS (by omega) (by omega) (by omega)
    have hb := st0_0 W D D2 a (a + 20) n 20
    rw [hws] at hb
    exact loop_next (body_of_sbodyK mixedz hb (by clear hb nx ih; exact So_z2) [] [] (σ3 := Sst0 D2 n 20 (a + 20) (a + 20 + 20)) (by clear hb nx ih; exact So_z1)) nx
theorem loopSt1 (n bs : Nat) (hbs : 0 < bs) (hbs2 : bs ≤ 2 ^ 42) : ∀ (f a : Nat) (D : List Doc), n = D.length → D.length ≤ 2 ^ 40 → n ≤ f + a → a ≤ n →
    LoopC Tryz.prog W [100000] (nslots Tryz.prog 74) (loopOf Tryz.prog 74 2) (Sst0 D n bs a (a + 2 * bs)) (.exit 4) ⟨[(0, .gs 100000 0 (mrgG lt n bs f a D).2.length), (1, iA n), (2, cmS), (6, iA bs), (7, iA ((mrgG lt n bs f a D).1 : Nat))], arrD (mrgG lt n bs f a D).2⟩ := by
  intro f
  induction f with
  | zero =>
    intro a D hn hD hf han
    exact loop_last (by simp) (body_of_sbodyK mixedz (st1_1 W D a (a + 2 * bs) n bs) So_z2 [] [] So_z1)
  | succ f ih =>
    intro a D hn hD hf han
    rw [mrgG]
    by_cases q : a + 2 * bs ≤ n
    case neg =>
      rw [if_neg q]
      exact loop_last (by simp) (body_of_sbodyK mixedz (st1_1 W D a (a + 2 * bs) n bs) So_z2 [] [] So_z1)
    rw [if_pos q]
    have hM := symMM W hcmp n D a (a + bs) (a + 2 * bs) D.length rfl (by omega) (by omega) (by omega) (by omega) hD
    have hl := symM_len lt n a (a + bs) (a + 2 * bs) D
    have nx := ih (a + 2 * bs) (symM lt n a (a + bs) (a + 2 * bs) D) (by omega) (by omega) (by omega) (by omega)
    generalize symM lt n a (a + bs) (a + 2 * bs) D = D2 at hM hl nx ⊢
    have hgl := hl.symm
    have w1 : IntKind.i64.wrap ((a : Int) + (bs : Int)) = ((a + bs : Nat) : Int) := wrapS (by omega) (by omega) (by omega)
    have w2 : IntKind.i64.wrap (2 * (bs : Int)) = ((2 * bs : Nat) : Int) := wrapS (by omega) (by omega) (by omega)
    have w3 : IntKind.i64.wrap (((a + 2 * bs : Nat) : Int) + ((2 * bs : Nat) : Int)) = ((a + 2 * bs + 2 * bs : Nat) : Int) := wrapS (by omega) (by omega) (by omega)
    have hb := st1_0 W D D2 a (a + 2 * bs) n bs
    rw [w1, w2, w3] at hb
    exact loop_next (body_of_sbodyK mixedz hb (by clear hb nx ih; exact So_z2) [] [] (σ3 := Sst0 D2 n bs (a + 2 * bs) (a + 2 * bs + 2 * bs)) (by clear hb nx ih; exact So_z1)) nx
theorem loopSt2 (n : Nat) : ∀ (f bs : Nat) (D : List Doc), n = D.length → D.length ≤ 2 ^ 40 → n ≤ f + bs → 0 < bs → bs ≤ 2 ^ 41 →
    LoopC Tryz.prog W [100000] (nslots Tryz.prog 74) (loopOf Tryz.prog 74 1) (Sst1 D n bs) (.exit 2) (Est (mrgO lt n f bs D)) := by
  intro f
  induction f with
  | zero =>
    intro bs D hn hD hf hb0 hb1
    exact loop_last (by simp) (body_of_sbodyK mixedz (st2_2 W D n bs) So_z2 [] [] So_z1)
  | succ f ih =>
    intro bs D hn hD hf hb0 hb1
    rw [mrgO]
    by_cases q : bs < n
    case neg =>
      rw [if_neg q]
      exact loop_last (by simp) (body_of_sbodyK mixedz (st2_2 W D n bs) So_z2 [] [] So_z1)
    rw [if_pos q]
    have l1 := loopSt1 W hcmp n bs hb0 (by omega) n 0 D hn hD (by omega) (by omega)
    rw [Nat.zero_add] at l1
    have hl1 := mrgG_len lt n bs n 0 D
    have hle := mrgG_le lt n bs n 0 D (by omega)
    have nx := ih (bs * 2) (lvlG lt n bs D) (by rw [lvlG_len]; exact hn) (by rw [lvlG_len]; exact hD) (by omega) (by omega) (by omega)
    have hlv : lvlG lt n bs D = if (mrgG lt n bs n 0 D).1 + bs < n then symM lt n (mrgG lt n bs n 0 D).1 ((mrgG lt n bs n 0 D).1 + bs) n (mrgG lt n bs n 0 D).2 else (mrgG lt n bs n 0 D).2 := rfl
    have hgl0 := lvlG_len lt n bs D
    generalize (mrgG lt n bs n 0 D).1 = a at *
    generalize (mrgG lt n bs n 0 D).2 = D1 at *
    have hws : IntKind.i64.wrap ((bs : Int) * 2) = ((bs * 2 : Nat) : Int) := wrapS (by omega) (by omega) (by omega)
    have w2 : IntKind.i64.wrap (2 * (bs : Int)) = ((2 * bs : Nat) : Int) := wrapS (by omega) (by omega) (by omega)
    have w1 : IntKind.i64.wrap ((a : Int) + (bs : Int)) = ((a + bs : Nat) : Int) := wrapS (by omega) (by omega) (by omega)
    by_cases q2 : a + bs < n
    · rw [if_pos q2] at hlv
      have hM := symMM W hcmp n D1 a (a + bs) n D1.length rfl (by omega) (by omega) (by omega) (by omega) (by omega)
      rw [← hlv] at hM
      generalize lvlG lt n bs D = D2 at *
      have hgl : D1.length = D2.length := by omega
      have hb := st2_0 W D D1 D2 a (2 * bs) n bs
      rw [w1, w2] at hb
      exact loop_next (body_of_sbodyK mixedz hb (by clear hb nx ih; exact So_z2) [] [] (σ3 := Sst1 D2 n (bs * 2)) (by clear hb nx ih; exact So_z1)) nx
    · rw [if_neg q2] at hlv
      rw [hlv] at nx ⊢
      have hb := st2_1 W D D1 a (2 * bs) n bs
      rw [w1, w2] at hb
      exact loop_next (body_of_sbodyK mixedz hb (by clear hb nx ih; exact So_z2) [] [] (σ3 := Sst1 D1 n (bs * 2)) (by clear hb nx ih; exact So_z1)) nx
end
end Go.Ac

