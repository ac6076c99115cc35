/- What is proved: contracts of functions of this translation, walked; their plain meaning. No condition beyond those that each theorem names. -/
import Derived.Test.YtkpppapgbplokaaGreatDoorHFb3
set_option linter.all false
namespace Go.Ac
open Go Go.Proofs
set_option maxRecDepth 10000
set_option maxHeartbeats 1000000
theorem Fb4_z1 {kp f ph σ σ'} (h : MatchK kp f ph σ σ' := by exact ⟨by rfl, (by simp only [S152, tOK, List.map_cons, List.map_nil, and_true] <;> exact zt), (by simp only [S152, hOK, List.map_cons, List.map_nil, and_true] <;> exact zh), (by simp only [S152, liveT, List.map_cons, List.map_nil, and_true] <;> exact zv), (by simp only [S152, liveH, List.map_cons, List.map_nil, and_true] <;> exact zv)⟩) : MatchK kp f ph σ σ' := h
theorem Fb4_z5 {cs} (h : Holds cs := by simp only [Holds, and_true] <;> and_intros <;> first | exact zd) : Holds cs := h
theorem Fb4_z6 {cs} (h : Holds cs := by simp only [Holds, and_true] <;> and_intros <;> first | exact zd | exact Fb4_z1) : Holds cs := h
def padA (A : List (List UInt8)) (i : Nat) : List AV := (A.take i).map AV.str ++ List.replicate (A.length - i) (AV.str [])
def S152 (A : List (List UInt8)) (u : List UInt8) (i : Nat) : AS := ⟨[(0, .str u), (1, .str [46]), (2, iA 0), (3, iA ((A.length : Int) - 1)), (9, .gs 100000 0 A.length), (10, iA i)], [(100000, .arr 9 1 (padA A i) .own)]⟩
theorem b152_0 (W : World) (A : List (List UInt8)) (u : List UInt8) (i : Nat) : sQ W { lp := true } 54 0 [] [0, 1, 2, 3, 9, 10] (S152 A u i) [bt, aE 6, bt, aE 3, .lg, oS (.str []), aE 1, .lg, ee] = .ok ((.normal, { t := [(0, .str (List.drop 1 (List.take (↑(defLen (.str u)) : Int).toNat u))), (1, .str [46]), (2, iA 0), (3, iA ((↑A.length : Int) - 1)), (9, .gs 100000 0 A.length), (10, iA (IntKind.i64.wrap ((↑i : Int) + 1)))], h := [(100000, .arr 9 1 ((padA A i).set (0 + (↑i : Int).toNat) (.str [])) .own)] }), [ee], [1 ≤ (↑(defLen (.str u)) : Int) ∧ (↑(defLen (.str u)) : Int) ≤ (↑u.length : Int), (padA A i)[0 + (↑i : Int).toNat]? = some (AV.str []), 0 ≤ (↑i : Int) ∧ (↑i : Int) < (↑A.length : Int), decide ([46] = u) = true, decide ((↑i : Int) < (↑A.length : Int) - 1) = true]) := by kernel_rfl
theorem b152_2 (W : World) (A : List (List UInt8)) (u : List UInt8) (i : Nat) : sQ W { lp := true } 54 0 [] [0, 1, 2, 3, 9, 10] (S152 A u i) [bt, aE 6, bf, aE 4, bf, .lg, .lg, .lg, oS (.str []), .lg, .lg, ee] = .ok ((.normal, { t := [(0, .str (List.drop (IntKind.i64.wrap (ixbB u (UInt8.ofNat 46) + 1)).toNat (List.take (↑(defLen (.str u)) : Int).toNat u))), (1, .str [46]), (2, iA 0), (3, iA ((↑A.length : Int) - 1)), (9, .gs 100000 0 A.length), (10, iA (IntKind.i64.wrap ((↑i : Int) + 1)))], h := [(100000, .arr 9 1 ((padA A i).set (0 + (↑i : Int).toNat) (.str (List.drop 0 (List.take (IntKind.i64.wrap (ixbB u (UInt8.ofNat 46) + 0)).toNat u)))) .own)] }), [ee], [IntKind.i64.wrap (ixbB u (UInt8.ofNat 46) + 1) ≤ (↑(defLen (.str u)) : Int) ∧ (↑(defLen (.str u)) : Int) ≤ (↑u.length : Int), 0 ≤ IntKind.i64.wrap (ixbB u (UInt8.ofNat 46) + 1) ∧ 0 ≤ (↑(defLen (.str u)) : Int), (padA A i)[0 + (↑i : Int).toNat]? = some (AV.str []), 0 ≤ (↑i : Int) ∧ (↑i : Int) < (↑A.length : Int), 0 ≤ IntKind.i64.wrap (ixbB u (UInt8.ofNat 46) + 0) ∧ IntKind.i64.wrap (ixbB u (UInt8.ofNat 46) + 0) ≤ (↑u.length : Int), (0 : Int) ≤ 0 ∧ 0 ≤ IntKind.i64.wrap (ixbB u (UInt8.ofNat 46) + 0), decide (ixbB u (UInt8.ofNat 46) < 0) = false, decide ([46] = u) = false, decide ((↑i : Int) < (↑A.length : Int) - 1) = true]) := by kernel_rfl
theorem b152_3 (W : World) (A : List (List UInt8)) (u : List UInt8) (i : Nat) : sbodyM Tryz.prog W { lp := true } 54 0 [] (S152 A u i) [bf, ee] = .ok ((.exit 0, { t := [(0, .str u), (1, .str [46]), (2, iA 0), (3, iA ((↑A.length : Int) - 1)), (9, .gs 100000 0 A.length), (10, iA (↑i : Int)), (34, iA (↑i : Int)), (35, iA ((↑A.length : Int) - 1)), (36, bA (decide ((↑i : Int) < (↑A.length : Int) - 1)))], h := [(100000, .arr 9 1 (padA A i) .own)] }), [ee], [decide ((↑i : Int) < (↑A.length : Int) - 1) = false]) := by kernel_rfl
theorem p152_0 (W : World) (s : List UInt8) (A : List (List UInt8)) (u : List UInt8) (i : Nat) : sF W { lp := true, fin := 9 } 54 [.str s, .str [46], iA 0, iA (-1)] [] 100000 [aE 8, .lg, .lg, ee, .loopM [] [] (S152 A s 0) (.exit 0) (S152 A u i), .lg, oS (.str []), .lg, .lg, ee, .fin [] [] (.gs 100000 0 A.length) [(100000, .arr 9 1 (List.map AV.str A) .own)], ee] [] = .ok (.ret (.gs 100000 0 A.length) [(100000, .arr 9 1 (List.map AV.str A) .own)], [ee], [MatchK [] [] [] { t := [(0, .gs 100000 0 ((IntKind.i64.wrap ((↑i : Int) + 1)).toNat - 0))], h := [(100000, .arr 9 1 ((padA A i).set (0 + (↑i : Int).toNat) (.str u)) .own)] } { t := [(0, .gs 100000 0 A.length)], h := [(100000, .arr 9 1 (List.map AV.str A) .own)] }, 0 ≤ IntKind.i64.wrap ((↑i : Int) + 1) ∧ IntKind.i64.wrap ((↑i : Int) + 1) ≤ (↑A.length : Int), (0 : Int) ≤ 0 ∧ 0 ≤ IntKind.i64.wrap ((↑i : Int) + 1), (padA A i)[0 + (↑i : Int).toNat]? = some (AV.str []), 0 ≤ (↑i : Int) ∧ (↑i : Int) < (↑A.length : Int), LZ W [] 54 0 (S152 A s 0) (.exit 0) (S152 A u i), MatchK [] [] [] { t := [(0, .str s), (1, .str [46]), (2, iA 0), (3, iA (IntKind.i64.wrap ((if IntKind.i64.wrap ((↑s.length : Int) + 1) < IntKind.i64.wrap (cntB s (UInt8.ofNat 46) + 1) then IntKind.i64.wrap ((↑s.length : Int) + 1) else IntKind.i64.wrap (cntB s (UInt8.ofNat 46) + 1)) - 1))), (9, .gs 100000 0 (if IntKind.i64.wrap ((↑s.length : Int) + 1) < IntKind.i64.wrap (cntB s (UInt8.ofNat 46) + 1) then IntKind.i64.wrap ((↑s.length : Int) + 1) else IntKind.i64.wrap (cntB s (UInt8.ofNat 46) + 1)).toNat), (10, iA 0)], h := [(100000, .arr 9 1 (List.replicate (if IntKind.i64.wrap ((↑s.length : Int) + 1) < IntKind.i64.wrap (cntB s (UInt8.ofNat 46) + 1) then IntKind.i64.wrap ((↑s.length : Int) + 1) else IntKind.i64.wrap (cntB s (UInt8.ofNat 46) + 1)).toNat (.str [])) .own)] } (S152 A s 0), (16 * if IntKind.i64.wrap ((↑s.length : Int) + 1) < IntKind.i64.wrap (cntB s (UInt8.ofNat 46) + 1) then IntKind.i64.wrap ((↑s.length : Int) + 1) else IntKind.i64.wrap (cntB s (UInt8.ofNat 46) + 1)) ≤ 281474976710656 ∧ (if IntKind.i64.wrap ((↑s.length : Int) + 1) < IntKind.i64.wrap (cntB s (UInt8.ofNat 46) + 1) then IntKind.i64.wrap ((↑s.length : Int) + 1) else IntKind.i64.wrap (cntB s (UInt8.ofNat 46) + 1)) ≤ 9223372036854775807, (0 ≤ if IntKind.i64.wrap ((↑s.length : Int) + 1) < IntKind.i64.wrap (cntB s (UInt8.ofNat 46) + 1) then IntKind.i64.wrap ((↑s.length : Int) + 1) else IntKind.i64.wrap (cntB s (UInt8.ofNat 46) + 1)) ∧ (if IntKind.i64.wrap ((↑s.length : Int) + 1) < IntKind.i64.wrap (cntB s (UInt8.ofNat 46) + 1) then IntKind.i64.wrap ((↑s.length : Int) + 1) else IntKind.i64.wrap (cntB s (UInt8.ofNat 46) + 1)) ≤ if IntKind.i64.wrap ((↑s.length : Int) + 1) < IntKind.i64.wrap (cntB s (UInt8.ofNat 46) + 1) then IntKind.i64.wrap ((↑s.length : Int) + 1) else IntKind.i64.wrap (cntB s (UInt8.ofNat 46) + 1)]) := by kernel_rfl
theorem p115_0 (W : World) (s : List UInt8) (A : List (List UInt8)) : sF W { lp := true, tl := [54] } 43 [.str s, .str [46]] [] 100000 [ee, cR (sL 1 (List.map AV.str A)) [], ee] [] = .ok (.ret (sL 1 (List.map AV.str A)) [], [ee], [MZ W 54 [.str s, .str [46], iA 0, iA (-1)] [] (.ret (sL 1 (List.map AV.str A)) [])]) := by kernel_rfl
theorem call152 : callable Tryz.prog 54 = true := by kernel_rfl
theorem call115 : callable Tryz.prog 43 = true := by kernel_rfl
theorem rep_clo : ∀ n : Nat, cloL (List.replicate n (AV.str [])) = true
  | 0 => rfl
  | n + 1 => by rw [List.replicate_succ]; simp only [cloL, rep_clo n, Bool.and_true]; rfl
theorem padA_clo (A : List (List UInt8)) (i : Nat) : cloL (padA A i) = true := by unfold padA; rw [clo_append, cloL_str, rep_clo]; rfl
theorem padA_set {A : List (List UInt8)} {i : Nat} {x : List UInt8} (h : A[i]? = some x) : (padA A i).set i (.str x) = padA A (i + 1) := take_pad h (List.getElem?_eq_some_iff.1 h).1
theorem padA_get {A : List (List UInt8)} {i : Nat} (h : i < A.length) : (padA A i)[i]? = some (.str []) := pad_get h (Nat.le_refl _)
theorem padA_all (A : List (List UInt8)) : padA A A.length = A.map AV.str := by simp [padA]
theorem padA_zero (A : List (List UInt8)) : List.replicate A.length (AV.str []) = padA A 0 := by simp [padA]
def lastU (A : List (List UInt8)) : List UInt8 := (A.drop (A.length - 1)).headD []
section
variable (W : World) (s : List UInt8)
theorem loop152 (A : List (List UInt8)) (hs : s.length ≤ 2 ^ 30) (hA : A.length ≤ s.length + 1) : ∀ p : Nat × List UInt8, (p.1 < A.length ∧ splitD 46 p.2 = A.drop p.1 ∧ p.2.length ≤ s.length) →
    LoopC Tryz.prog W [] (nslots Tryz.prog 54) (loopOf Tryz.prog 54 0) (S152 A p.2 p.1) (.exit 0) (S152 A (lastU A) (A.length - 1 : Nat)) := by
  refine loopC_inv (fun p : Nat × List UInt8 => S152 A p.2 p.1) (fun p => p.1 < A.length ∧ splitD 46 p.2 = A.drop p.1 ∧ p.2.length ≤ s.length) (fun p => A.length - p.1) (by simp) ?_
  rintro ⟨i, u⟩ ⟨h1, h2, h3⟩
  simp only at h1 h2 h3
  have hdl : defLen (AV.str u) = u.length := rfl
  by_cases hi : (i : Int) < (A.length : Int) - 1
  · left
    by_cases hm : ixbB u (UInt8.ofNat 46) < 0
    · exfalso
      have e := splitD_one 46 u (by rw [← ixbB_eq Tryz.prog]; exact hm)
      have := congrArg List.length (h2.symm.trans e)
      simp only [List.length_drop, List.length_cons, List.length_nil] at this
      omega
    obtain ⟨m, hixb⟩ := Int.eq_ofNat_of_zero_le (show 0 ≤ ixbB u (UInt8.ofNat 46) by omega)
    have hixb' : Lib.indexByte u 46 = (m : Int) := by rw [← ixbB_eq Tryz.prog]; exact hixb
    obtain ⟨hcut, hml⟩ := splitD_cut 46 u m hixb'
    have hx : A[i]? = some (u.take m) := by
      have := congrArg List.head? (h2.symm.trans hcut)
      rw [List.head?_drop] at this; simpa using this
    have hrest : splitD 46 (u.drop (m + 1)) = A.drop (i + 1) := by
      have := congrArg List.tail (h2.symm.trans hcut)
      rw [List.tail_drop] at this; simpa using this.symm
    have hw0 : IntKind.i64.wrap ((m : Int) + 0) = (m : Int) := by rw [IntWalk.i64_in _ (by omega)]; omega
    have hw1 : IntKind.i64.wrap ((m : Int) + 1) = ((m + 1 : Nat) : Int) := wrap_succ (by omega)
    have hws : IntKind.i64.wrap ((i : Int) + 1) = ((i + 1 : Nat) : Int) := wrap_succ (by omega)
    refine ⟨(i + 1, u.drop (m + 1)), ⟨by simp only; omega, hrest, by simp only [List.length_drop]; omega⟩, by simp only; omega, ?_⟩
    by_cases he : [46] = u
    · subst he
      have hm0 : m = 0 := by simp only [List.length_cons, List.length_nil] at hml; omega
      subst hm0
      have hset : (padA A i).set (0 + ((i : Int)).toNat) (AV.str []) = padA A (i + 1) := by
        rw [Int.toNat_natCast, Nat.zero_add]; exact padA_set hx
      exact body_of_sbodyK mixedz (b152_0 W A [46] i) Fb4_z5 [] [] Fb4_z1
    · have hset : (padA A i).set (0 + ((i : Int)).toNat) (AV.str (List.drop 0 (List.take ((m : Int)).toNat u))) = padA A (i + 1) := by
        rw [Int.toNat_natCast, Nat.zero_add, Int.toNat_natCast, List.drop_zero]; exact padA_set hx
      exact body_of_sbodyK mixedz (b152_2 W A u i) Fb4_z5 [] [] Fb4_z1
  · right
    have hi2 : i = A.length - 1 := by omega
    subst hi2
    have e1 := splitD_single 46 u (by rw [h2]; simp only [List.length_drop]; omega)
    have e2 : lastU A = u := by unfold lastU; rw [← h2, e1]; rfl
    rw [e2]
    exact body_of_sbodyM mixedz (b152_3 W A u _) Fb4_z5 [] [] Fb4_z1
theorem genSplit152 (hs : s.length ≤ 2 ^ 30) : Pure Tryz.prog W 54 [.str s, .str [46], iA 0, iA (-1)] (.sl 1 ((splitD 46 s).map AV.str) []) := by
  have hA : (splitD 46 s).length = Lib.countByte s 46 + 1 := splitD_len 46 s
  have hcl : Lib.countByte s 46 ≤ s.length := countByte_le s 46
  generalize hAA : splitD 46 s = A at hA
  have hcb : cntB s (UInt8.ofNat 46) = (Lib.countByte s 46 : Int) := cntB_eq Tryz.prog s 46
  have hw1 : IntKind.i64.wrap (cntB s (UInt8.ofNat 46) + 1) = (A.length : Int) := by rw [hcb, IntWalk.i64_in _ (by omega)]; omega
  have hw2 : IntKind.i64.wrap ((s.length : Int) + 1) = (s.length : Int) + 1 := by rw [IntWalk.i64_in _ (by omega)]
  have hN : (if IntKind.i64.wrap ((s.length : Int) + 1) < IntKind.i64.wrap (cntB s (UInt8.ofNat 46) + 1) then IntKind.i64.wrap ((s.length : Int) + 1) else IntKind.i64.wrap (cntB s (UInt8.ofNat 46) + 1)) = (A.length : Int) := by
    rw [hw1, hw2, if_neg (by omega)]
  have hwm : IntKind.i64.wrap ((A.length : Int) - 1) = (A.length : Int) - 1 := by rw [IntWalk.i64_in _ (by omega)]
  have h1 : A.length - 1 < A.length := by omega
  have hws : IntKind.i64.wrap (((A.length - 1 : Nat) : Int) + 1) = (A.length : Int) := by rw [IntWalk.i64_in _ (by omega)]; omega
  have hlp := loop152 W s A hs (by omega) (0, s) ⟨by simp only; omega, by simp only; rw [hAA]; rfl, Nat.le_refl _⟩
  have hlast : A[A.length - 1]? = some (lastU A) := by
    unfold lastU
    have : A.length - 1 < A.length := h1
    rw [List.drop_eq_getElem_cons this, List.getElem?_eq_getElem this]; rfl
  have hset : (padA A (A.length - 1)).set (0 + (((A.length - 1 : Nat) : Int)).toNat) (AV.str (lastU A)) = A.map AV.str := by
    rw [Int.toNat_natCast, Nat.zero_add, padA_set hlast, ← padA_all]; congr 1; omega
  have hdl : defLen (AV.str (lastU A)) = (lastU A).length := rfl
  have h := mut_of_sfun mixedz call152 rfl (p152_0 W s A (lastU A) (A.length - 1)) Fb4_z6
  exact pure_frz1 h (by simp) (cloL_str _)
theorem Split115 (hs : s.length ≤ 2 ^ 30) : Pure Tryz.prog W 43 [.str s, .str [46]] (.sl 1 ((splitD 46 s).map AV.str) []) := by
  have hc := mut_of_pure (by rfl) (genSplit152 W s hs)
  exact goB rfl rfl (mut_of_sfun mixedz call115 rfl (p115_0 W s (splitD 46 s)) Fb4_z5)
end
end Go.Ac

