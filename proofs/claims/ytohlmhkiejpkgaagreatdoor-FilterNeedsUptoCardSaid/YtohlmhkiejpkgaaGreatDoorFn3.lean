/- What is proved: contracts of functions of this translation, walked; their plain meaning. No condition beyond those that each theorem names. -/
import Derived.Test.YtohlmhkiejpkgaaGreatDoorFn2
set_option linter.all false
namespace Go.Ac
open Go Go.Proofs
set_option maxRecDepth 10000
set_option maxHeartbeats 2000000
structure NdSz (B : Nat) (x : Nd) : Prop where
  s : x.1.length ≤ 2 ^ 30
  c : cntV x.2.2 ≤ B
  n : nmV x.2.2
theorem needT_sz {B : Nat} {s : List UInt8} {ms : List (List UInt8 × JV)} (hs : s.length ≤ 2 ^ 30) (h : ∀ p ∈ ms, cntV p.2 ≤ B ∧ nmV p.2) : ∀ x ∈ needT s ms, NdSz B x := by
  intro x hx
  unfold needT at hx
  obtain ⟨p, hp, hx⟩ := List.mem_flatMap.1 hx
  split at hx
  · rw [List.mem_singleton] at hx
    subst hx
    exact ⟨hs, (h p hp).1, (h p hp).2⟩
  · cases hx
theorem need_sz {B : Nat} : ∀ (n : Nat) (q : JV), cntV q ≤ B → nmV q → ∀ x ∈ needF n q, NdSz B x
  | 0, q, hc, hn, x, hx => by simp [needF] at hx
  | n + 1, q, hc, hn, x, hx => by
    rw [needF_eq] at hx
    obtain ⟨p, hp, hx⟩ := List.mem_flatMap.1 hx
    have hpm := mems_mem hp
    obtain ⟨k, hk⟩ := List.getElem?_of_mem hpm.2
    have hcp := cntV_item hk
    have hnp := nmV_mem hn hpm.2
    unfold needG at hx
    split at hx
    · split at hx
      · obtain ⟨y, hy1, hy2⟩ := List.mem_flatMap.1 hx
        obtain ⟨k2, hk2⟩ := List.getElem?_of_mem hy1
        have hcy := cntV_item hk2
        exact need_sz n y (by omega) (nmV_mem hnp hy1) x hy2
      · cases hx
    · refine needT_sz (nmV_name hn hpm.1) (fun m hm => ?_) x hx
      unfold clauseM at hm
      split at hm
      · cases n with
        | zero => cases hm
        | succ n =>
          have hmm := mems_mem hm
          obtain ⟨k2, hk2⟩ := List.getElem?_of_mem hmm.2
          have hcm := cntV_item hk2
          exact ⟨by omega, nmV_mem hnp hmm.2⟩
      · rw [List.mem_singleton] at hm
        subst hm
        exact ⟨by simp only; omega, hnp⟩
theorem word_at {op : Int} (h : 1 ≤ op ∧ op ≤ 6) : W8[0 + op.toNat]? = some (.str (wordN op)) := by
  have : op = 1 ∨ op = 2 ∨ op = 3 ∨ op = 4 ∨ op = 5 ∨ op = 6 := by omega
  rcases this with rfl | rfl | rfl | rfl | rfl | rfl <;> rfl
theorem word_len (op : Int) : (wordN op).length ≤ 2 ^ 30 := by
  unfold wordN
  repeat' split
  all_goals decide
section
variable (W : World)
theorem needs31 (n : Nat) (q : JV) (t : Int) (hc : cntV q ≤ 2 ^ 30) : Pure Tryz.prog W 31 [filA n q t] (.sl 7 ((needF n q).map encN) []) :=
  pure_of_mut rfl (mut_of_sfun mixedz call31 rfl (p31_0 W ((needF n q).map encN) (qN n q) t) ⟨mut_of_pure (by rfl) (needs73 W n q hc), trivial⟩)
theorem loop8 (d : JV) (xs : List Nd) (hl : xs.length ≤ 2 ^ 30) (hd : cntV d ≤ 2 ^ 30) (hok : ∀ x ∈ xs, NeedOK d x) (hsz : ∀ x ∈ xs, NdSz (2 ^ 29) x) : ∀ (j i : Nat), xs.length - i = j → i ≤ xs.length →
    LoopC Tryz.prog W [] (nslots Tryz.prog 8) (loopOf Tryz.prog 8 0) (S8 d.hd d.items (xs.map encN) i) (.exit 0) E8 := by
  intro j
  have hcl := cloL_encN xs
  induction j with
  | zero =>
    intro i hk hle
    have e : i = xs.length := by omega
    subst e
    exact loop_last (by simp) (body_of_sbodyK mixedz (b8_3 W (xs.map encN) xs.length d.hd d.items) Fn1_z2 [] [] Fn1_z1)
  | succ j ih =>
    intro i hk hle
    obtain ⟨x, hx⟩ := getOf (l := xs) (i := i) (by omega)
    have hm := List.mem_of_getElem? hx
    have o := hok x hm
    have z := hsz x hm
    have hws : IntKind.i64.wrap ((i : Int) + 1) = ((i + 1 : Nat) : Int) := wrap_succ (by omega)
    have hnx := ih (i + 1) (by omega) (by omega)
    have hN : (xs.map encN)[((i : Int)).toNat]? = some (encN x) := by rw [Int.toNat_natCast, List.getElem?_map, hx]; rfl
    have hil : decide ((i : Int) < ((xs.map encN).length : Int)) = true := by rw [List.length_map]; exact decide_eq_true (by omega)
    obtain ⟨s, op, v⟩ := x
    have ho := o.op
    have h1 : decide (op < 1) = false := decide_eq_false (by have := ho.1; simp only at this; omega)
    have h2 : decide (6 < op) = false := decide_eq_false (by have := ho.2; simp only at this; omega)
    have h3 : 0 ≤ op ∧ op < 7 := ⟨by have := ho.1; simp only at this; omega, by have := ho.2; simp only at this; omega⟩
    have hw := word_at ho
    simp only at hw
    have zs := z.s
    have zc := z.c
    have zn := z.n
    simp only at zs zc zn
    have hwl := word_len op
    have hk1 : chkQ (sizeV v + 10 + 2) (objV s (objV (wordN op) v)) 0 0 = .ok (0 + 1) := chk_obj o.e o.dl (by omega) (chk_op o.is o.tk o.n1 o.n2 (by omega) (by omega))
    have m1 := matches27 W (x := d) hk1 (by rw [size_obj, size_obj]; omega) (by rw [cnt_obj, cnt_obj]; omega) (nm_obj zs (nm_obj hwl zn)) hd
    have hmm := o.m (sizeV v + 10)
    simp only at hmm
    rw [hmm] at m1
    have M1 := mut_of_pure (by simp only [cloL, encV_clo, Bool.and_self]) m1
    have A1 := obj26M W (wordN op) v
    have A2 := obj26M W s (objV (wordN op) v)
    obtain ⟨h, l⟩ := v
    refine loop_next (body_of_sbodyK mixedz (b8_2 W s (wordN op) (xs.map encN) i h d.hd l d.items op) ?_ [] [] Fn1_z1) hnx
    obtain ⟨gd, ld⟩ := d
    simp only [Holds, and_true]
    and_intros <;> first | assumption | exact M1 | exact A2 | exact A1 | exact hN | exact hw | exact zd
theorem needs8 (q d : JV) (hq : cntV q ≤ 2 ^ 29) (hd : cntV d ≤ 2 ^ 29) (hnm : nmV q) : Pure Tryz.prog W 8 [encV q, encV d] (bA true) := by
  obtain ⟨w, hw⟩ := large14 W [q, d] (by simp only [cntVs]; omega)
  have hc1 : MutC Tryz.prog W 14 [.gs 100002 0 2] [(100002, .arr 25 5 [encV q, encV d] .own)] (.ret (bA w) [(100002, .arr 25 5 [encV q, encV d] .own)]) :=
    mut_of_pureFlat (frz2 rfl (by simp [Frzable, cloL, encV_clo])) rfl (by rfl) rfl hw
  have hc2 := mut_of_pure (by rfl) (live15 W)
  have hk := check16 W (n := sizeV q + 1) (q := q) (Nat.lt_succ_self _) (by omega) hnm
  cases w with
  | true =>
    obtain ⟨h, l⟩ := q
    obtain ⟨h2, l2⟩ := d
    exact pure_of_mut rfl (mut_of_sfun mixedz call8 rfl (p8_0 W h2 h l2 l true true) Fn1_z2)
  | false =>
    cases er : chkQ (sizeV q + 1) q 0 0 with
    | error e =>
      have hne := (chk_err _).2 _ _ _ _ er
      rw [er] at hk
      unfold chkA at hk
      have hc3 := mut_of_pure (by simp only [cloL, encV_clo, Bool.and_self]) (pure_leR (.tup (.cons (.refl _) (.cons (.top _) .nil))) hk)
      have hb1 : (!decide (e = 0)) = true := by rw [decide_eq_false hne]; rfl
      obtain ⟨h, l⟩ := q
      obtain ⟨h2, l2⟩ := d
      exact pure_of_mut rfl (mut_of_sfun mixedz call8 rfl (p8_1 W h2 h l2 l e false true) Fn1_z2)
    | ok t =>
      rw [er] at hk
      unfold chkA at hk
      have hk2 : Pure Tryz.prog W 16 [encV q] (.tup [iA 0, .top]) := pure_leR (.tup (.cons (.refl _) (.cons (.top _) .nil))) hk
      have hc3 := mut_of_pure (by simp only [cloL, encV_clo, Bool.and_self]) hk2
      have hb1 : (!decide ((0 : Int) = 0)) = false := rfl
      have hc4 := mut_of_pure (by simp only [cloL, encV_clo, Bool.and_self]) (parse17 W er (Nat.lt_succ_self _) (by omega) hnm)
      have hc5 := mut_of_pure (by simp only [cloL, encV_clo, Bool.and_self]; rfl) (match20 W er (by omega) t (x := d) (by omega))
      have hc6 := mut_of_pure (by rfl) (needs31 W (sizeV q + 1) q t (by omega))
      have hnl := need_len (sizeV q + 1) q
      have hokk := need_ok d (sizeV q + 1) q _ _ _ er
      have hszz := need_sz (B := 2 ^ 29) (sizeV q + 1) q (by omega) hnm
      unfold filA at hc4 hc5 hc6
      cases em : matchF (sizeV q + 1) q d with
      | false =>
        rw [em] at hc5
        have hb2 : (!false) = true := rfl
        generalize qN (sizeV q + 1) q = C at hc4 hc5 hc6
        obtain ⟨h, l⟩ := q
        obtain ⟨h2, l2⟩ := d
        exact pure_of_mut rfl (mut_of_sfun mixedz call8 rfl (p8_2 W C h2 h l2 l t 0 false true false) Fn1_z2)
      | true =>
        rw [em] at hc5
        have hb2 : (!true) = false := rfl
        have hlp := loop8 W d _ (by omega) (by omega) (hokk em) hszz _ 0 rfl (Nat.zero_le _)
        have hcl := cloL_encN (needF (sizeV q + 1) q)
        generalize (needF (sizeV q + 1) q).map encN = N at hc6 hlp hcl
        generalize qN (sizeV q + 1) q = C at hc4 hc5 hc6
        obtain ⟨h, l⟩ := q
        obtain ⟨h2, l2⟩ := d
        exact pure_of_mut rfl (mut_of_sfun mixedz call8 rfl (p8_3 W N C h2 h l2 l t 0 false true true) Fn1_z2)
end
end Go.Ac

