/- What is proved: contracts of functions of this translation, walked; their plain meaning. No condition beyond those that each theorem names. -/
import Derived.Test.YtdalodgajiodhaaGreatDoorId5
set_option linter.all false
namespace Go.Ac
open Go Go.Proofs
set_option maxRecDepth 10000
set_option maxHeartbeats 1000000
namespace Dd
theorem tn_items {v : JV} (h : tnV v) : tnVs v.items := by cases v; exact h.2.2
theorem tn_item {v x : JV} (h : tnV v) (hx : x ∈ v.items) : tnV x := tnVs_mem (tn_items h) x hx
theorem tn_all : ∀ (p : List (List UInt8)) (v : JV), tnV v → tnVs (allV v p)
  | [], v, h => by rw [allV]; exact ⟨h, trivial⟩
  | s :: p, v, h => by
    have one : ∀ u, tnV u → tnVs (oneV u s (fun y => allV y p)) := fun u hu => by
      unfold oneV
      split
      · trivial
      · split
        · rename_i x hx; exact tn_all p x (tn_item hu (List.mem_of_getElem? hx))
        · trivial
    rw [allV]
    split
    · have : ∀ l : List JV, tnVs l → tnVs (l.flatMap fun x => if x.kind = 6 then oneV x s (fun y => allV y p) else []) := by
        intro l
        have app : ∀ a b : List JV, tnVs a → tnVs b → tnVs (a ++ b) := by
          intro a
          induction a with
          | nil => intro b _ hb; exact hb
          | cons x a ih => intro b ha hb; exact ⟨ha.1, ih b ha.2 hb⟩
        induction l with
        | nil => intro _; trivial
        | cons x l ih =>
          intro hl
          rw [List.flatMap_cons]
          refine app _ _ ?_ (ih hl.2)
          split
          · exact one x hl.1
          · trivial
      exact this v.items (tn_items h)
    · exact one v h
theorem tnVs_opV (v : JV) (h : tnV v) : ∀ x ∈ opV v, tnV x := by
  unfold opV
  split
  · exact tnVs_mem (tn_items h)
  · intro x hx; rw [List.mem_singleton] at hx; subst hx; exact h
theorem cand_GV (p : List (List UInt8)) (v : JV) (h : GV v) : ∀ x ∈ candV p v, GV x := by
  intro x hx
  constructor
  · obtain ⟨i, hi⟩ := List.getElem?_of_mem hx
    have := cntVs_get hi; have := candV_cnt p v; have := h.1; omega
  · unfold candV at hx
    rw [openV_eq, List.mem_flatMap] at hx
    obtain ⟨y, hy, hx⟩ := hx
    exact tnVs_opV y (tnVs_mem (tn_all p v h.2) y hy) x hx
theorem put_uniq (out : List JV) (x : JV) : putV (sortS ltV out) x = sortS ltV (addU out x) := by
  by_cases hm : x ∈ out
  · have h1 : addU out x = out := by unfold addU; exact if_pos hm
    have h2 : putV (sortS ltV out) x = sortS ltV out := by unfold putV; exact if_pos ((sort_mem (lt := ltV) out x).2 hm)
    rw [h1, h2]
  · have h1 : addU out x = out ++ [x] := by unfold addU; exact if_neg hm
    have h2 : putV (sortS ltV out) x = mgS ltV (sortS ltV out) [x] := by unfold putV; exact if_neg fun h => hm ((sort_mem (lt := ltV) out x).1 h)
    rw [h1, h2, sort_snoc ltV_swo]
theorem addU_GV {out : List JV} {x : JV} (h : ∀ y ∈ out, GV y) (hx : GV x) : ∀ y ∈ addU out x, GV y := by
  intro y hy
  unfold addU at hy
  split at hy
  · exact h y hy
  · rcases List.mem_append.1 hy with hy | hy
    · exact h y hy
    · rw [List.mem_singleton] at hy; subst hy; exact hx
theorem uniq_GV : ∀ (c out : List JV), (∀ y ∈ out, GV y) → (∀ y ∈ c, GV y) → ∀ y ∈ uniqV out c, GV y
  | [], out, h, _ => h
  | x :: c, out, h, hc => uniq_GV c (addU out x) (addU_GV h (hc x (by simp))) fun y hy => hc y (List.mem_cons_of_mem _ hy)
section
variable (W : World)
theorem loop23i (D : List Doc) (p : List (List UInt8)) (c : List JV) (i : Nat) (hc : cntVs c ≤ 2 ^ 30) (hG : ∀ y ∈ c, GV y) : ∀ (q k : Nat) (out : List JV), c.length - k = q → k ≤ c.length → cntVs out + cntVs (c.drop k) ≤ 2 ^ 30 → (∀ y ∈ out, GV y) → LoopC Tryz.prog W [] (nslots Tryz.prog 23) (loopOf Tryz.prog 23 1) (T23 p D c (sortS ltV out) i k) (.exit 2) (S23 p D (sortS ltV (uniqV out (c.drop k))) i) := by
  have hlen := encVs_len c
  have hlc := len_cnt c
  intro q
  induction q with
  | zero =>
    intro k out hq hk ho hO
    rw [List.drop_eq_nil_of_le (by omega)]
    show LoopC _ _ _ _ _ _ _ (S23 p D (sortS ltV out) i)
    generalize sortS ltV out = m
    exact loop_last (by simp) (body_of_sbodyK mixedz (b23i_1 W D p m c i k) (by clear hG hO; exact Id_z2) [] [] (by clear hG hO; exact Id_z1))
  | succ q ih =>
    intro k out hq hk ho hO
    obtain ⟨x, hx⟩ := getOf (l := c) (i := k) (by omega)
    have hws : IntKind.i64.wrap ((k : Int) + 1) = ((k + 1 : Nat) : Int) := wrap_succ (by omega)
    have hget := encVs_get hx
    have hxG := hG x (List.mem_of_getElem? hx)
    rw [drop_cons hx] at ho ⊢
    simp only [cntVs] at ho
    have ha := addU_cnt out x
    have nx := ih (k + 1) (addU out x) (by omega) (by omega) (by omega) (addU_GV hO hxG)
    have e : uniqV out (x :: c.drop (k + 1)) = uniqV (addU out x) (c.drop (k + 1)) := rfl
    rw [e]
    have hlo := len_cnt out
    have h53 : MutC Tryz.prog W 53 [.sl 5 (encVs (sortS ltV out)) [], encV x] [] (.ret (.sl 5 (encVs (putV (sortS ltV out) x)) []) []) :=
      mut_of_pure (by simp only [cloL, encV_clo, encVs_clo, AV.clo, Bool.and_self]) (put53 W _ x (by rw [sort_len]; omega) (fun y hy => hO y ((sort_mem (lt := ltV) out y).1 hy)) (sort_srtd ltV_swo out))
    rw [put_uniq] at h53
    clear hG hO
    generalize sortS ltV out = m at *
    generalize hk2 : sortS ltV (addU out x) = k2 at *
    obtain ⟨hx', lx⟩ := x
    exact loop_next (body_of_sbodyK mixedz (b23i_0 W D p m k2 c hx' lx i k) (by clear nx ih; exact Id_z2) [] [] (σ3 := T23 p D c k2 i (k + 1)) (by clear nx ih; exact Id_z1)) nx
theorem loop23o (D : List Doc) (p : List (List UInt8)) (hD : dcnt D ≤ 2 ^ 29) (hG : ∀ d ∈ D, GV d.v) : ∀ (q i : Nat) (out : List JV), D.length - i = q → i ≤ D.length → cntVs out + dcnt (D.drop i) ≤ 2 ^ 29 → (∀ y ∈ out, GV y) → LoopC Tryz.prog W [] (nslots Tryz.prog 23) (loopOf Tryz.prog 23 0) (S23 p D (sortS ltV out) i) (.exit 0) (E23 (sortS ltV (uniqV out (allC p (D.drop i))))) := by
  have hDl := docs_len D
  have hDc := dcnt_len D
  intro q
  induction q with
  | zero =>
    intro i out hq hi ho hO
    rw [List.drop_eq_nil_of_le (by omega)]
    show LoopC _ _ _ _ _ _ _ (E23 (sortS ltV out))
    generalize sortS ltV out = m
    exact loop_last (by simp) (body_of_sbodyK mixedz (b23o_1 W D p m i) (by clear hG hO; exact Id_z2) [] [] (by clear hG hO; exact Id_z1))
  | succ q ih =>
    intro i out hq hi ho hO
    obtain ⟨x, hx⟩ := getOf (l := D) (i := i) (by omega)
    have hws : IntKind.i64.wrap ((i : Int) + 1) = ((i + 1 : Nat) : Int) := wrap_succ (by omega)
    have hget := docs_geti hx
    have hxG := hG x (List.mem_of_getElem? hx)
    rw [drop_cons hx] at ho ⊢
    simp only [dcnt] at ho
    have e : uniqV out (allC p (x :: D.drop (i + 1))) = uniqV (uniqV out (candV p x.v)) (allC p (D.drop (i + 1))) := by
      unfold allC uniqV; rw [List.flatMap_cons, List.foldl_append]
    rw [e]
    have hcc := candV_cnt p x.v
    have huc := uniq_cnt (candV p x.v) out
    have hcG := cand_GV p x.v hxG
    have nx := ih (i + 1) (uniqV out (candV p x.v)) (by omega) (by omega) (by omega) (uniq_GV _ _ hO hcG)
    have hlp := loop23i W D p (candV p x.v) i (by omega) hcG (candV p x.v).length 0 out (by omega) (by omega) (by rw [List.drop_zero]; omega) hO
    rw [List.drop_zero] at hlp
    have h52 : MutC Tryz.prog W 52 [encV x.v, .sl 1 (p.map AV.str) []] [] (.ret (.sl 5 (encVs (candV p x.v)) []) []) := mut_of_pure (by simp only [cloL, encV_clo, Bool.and_self]; rfl) (cand52 W p x.v hxG.1)
    clear hG hO hcG
    generalize candV p x.v = c at *
    generalize sortS ltV out = m at *
    generalize sortS ltV (uniqV out c) = k2 at *
    obtain ⟨ix, vx, ⟨hx', lx⟩⟩ := x
    exact loop_next (body_of_sbodyK mixedz (b23o_0 W D p m k2 c hx' lx ix vx i) (by clear nx ih; exact Id_z2) [] [] (σ3 := S23 p D k2 (i + 1)) (by clear nx ih; exact Id_z1)) nx
theorem dist23 (D : List Doc) (p : List (List UInt8)) (hD : dcnt D ≤ 2 ^ 29) (hG : ∀ d ∈ D, GV d.v) : Pure Tryz.prog W 23 [.sl 7 (docsA D) [], .sl 1 (p.map AV.str) []] (.sl 5 (encVs (distV p D)) []) := by
  have hlp := loop23o W D p hD hG D.length 0 [] (by omega) (by omega) (by rw [List.drop_zero]; simp only [cntVs]; omega) (fun y hy => by cases hy)
  rw [List.drop_zero] at hlp
  clear hG
  unfold distV
  generalize sortS ltV (uniqV [] (allC p D)) = m at *
  exact pure_of_mut (by simp only [AV.clo, encVs_clo, cloL, Bool.and_self]) (mut_of_sfun mixedz call23 rfl (p23_0 W D p m) Id_z2)
theorem values24 (A : List JV) (hl : A.length ≤ 2 ^ 40) (hG : ∀ x ∈ A, cntV x ≤ 2 ^ 30) : Pure Tryz.prog W 24 [.sl 5 (encVs A) [], .sl 5 (encVs A) []] (bA true) := by
  have hlen := encVs_len A
  have loop : ∀ (k i : Nat), A.length - i = k → i ≤ A.length → LoopC Tryz.prog W [] (nslots Tryz.prog 24) (loopOf Tryz.prog 24 0) (S24 A A i) (.exit 0) E81 := by
    intro k
    induction k with
    | zero =>
      intro i hk hi
      exact loop_last (by simp) (body_of_sbodyK mixedz (b24_2 W A A i) (by clear hG; exact Id_z2) [] [] (by clear hG; exact Id_z1))
    | succ k ih =>
      intro i hk hi
      obtain ⟨x, hx⟩ := getOf (l := A) (i := i) (by omega)
      have hws : IntKind.i64.wrap ((i : Int) + 1) = ((i + 1 : Nat) : Int) := wrap_succ (by omega)
      have hget := encVs_get hx
      have h42 := eq42 W x x (hG x (List.mem_of_getElem? hx))
      rw [eqV_true] at h42
      have c1 : (!true) = false := rfl
      have nx := ih (i + 1) (by omega) (by omega)
      obtain ⟨hx', lx⟩ := x
      exact loop_next (body_of_sbodyK mixedz (b24_1 W A A hx' hx' lx lx i true) (by clear nx ih hG; exact Id_z2) [] [] (σ3 := S24 A A (i + 1)) (by clear nx ih hG; exact Id_z1)) nx
  have hlp := loop A.length 0 (by omega) (by omega)
  have c1 : (!decide (((encVs A).length : Int) = ((encVs A).length : Int))) = false := by simp
  clear hG
  exact pure_of_mut rfl (mut_of_sfun mixedz call24 rfl (p24_1 W A A) Id_z2)
theorem values24M (A : List JV) (hl : A.length ≤ 2 ^ 40) (hG : ∀ x ∈ A, cntV x ≤ 2 ^ 30) : MutC Tryz.prog W 24 [.gs 100010 0 A.length, .sl 5 (encVs A) []] [(100010, .arr 25 5 (encVs A) .own)] (.ret (bA true) [(100010, .arr 25 5 (encVs A) .own)]) := by
  have hlo := encVs_len A
  have e : clL [(100010, .arr 25 5 (encVs A) .own)] [.gs 100010 0 A.length, .sl 5 (encVs A) []] = [.sl 5 (encVs A) [], .sl 5 (encVs A) []] := by
    have e1 : List.take A.length (encVs A) = encVs A := by rw [← hlo, List.take_length]
    simp [clL, clA, lk, hlo, e1]
  refine mut_of_pureFlat ?_ rfl (by rw [e]; simp only [cloL, encVs_clo, AV.clo, Bool.and_self]) rfl (by rw [e]; exact values24 W A hl hG)
  intro p hp
  simp only [List.mem_cons, List.not_mem_nil, or_false] at hp
  subst hp
  exact ⟨by simp [hg], encVs_clo _⟩
theorem manyC (D : List Doc) (hD : ∀ x ∈ D, okV x.v) (hl : D.length ≤ 2 ^ 41) : ∃ g : Bool, Pure Tryz.prog W 8 [.sl 7 (docsA D) []] (bA g) ∧ (g = false → D.length ≤ 150 ∧ dcnt D ≤ 2 ^ 29) := by
  have hDl := docs_len D
  have loop : ∀ (k i : Nat) (n : Int), D.length - i = k → i ≤ D.length → 0 ≤ n → n ≤ 2 ^ 55 → ∃ n', LoopC Tryz.prog W [] (nslots Tryz.prog 8) (loopOf Tryz.prog 8 0) (S8 D n i) (.exit 0) (E8 D n') ∧ n ≤ n' ∧ (n' ≤ 5000 → (dcnt (D.drop i) : Int) ≤ 5000 * ((D.length : Int) - i)) := by
    intro k
    induction k with
    | zero =>
      intro i n hk hi h0 h1
      have e : decide ((i : Int) < ((docsA D).length : Int)) = false := by rw [hDl]; exact decide_eq_false (by omega)
      refine ⟨n, loop_last (by simp) (body_of_sbodyK mixedz (b8_2 W D i n) Sn_z2 [] [] Sn_z1), Int.le_refl _, fun _ => ?_⟩
      rw [List.drop_eq_nil_of_le (by omega)]; simp only [dcnt]; omega
    | succ k ih =>
      intro i n hk hi h0 h1
      have e : decide ((i : Int) < ((docsA D).length : Int)) = true := by rw [hDl]; exact decide_eq_true (by omega)
      by_cases hn : n ≤ 5000
      case neg =>
        exact ⟨n, loop_last (by simp) (body_of_sbodyK mixedz (b8_1 W D i n) Sn_z2 [] [] Sn_z1), Int.le_refl _, fun h => absurd h hn⟩
      obtain ⟨x, hx⟩ := getOf (l := D) (i := i) (by omega)
      have hxo := hD x (List.mem_of_getElem? hx)
      have hp := mut_of_pure (by simp [cloL, encV_clo, AV.clo, iA]) (parts W x.v 5000 hxo (by omega) (by omega))
      have h2 := partsV_bd x.v 5000 hxo (by omega)
      have hws : IntKind.i64.wrap ((i : Int) + 1) = ((i + 1 : Nat) : Int) := wrap_succ (by omega)
      have hws2 : IntKind.i64.wrap (n + partsV x.v 5000) = n + partsV x.v 5000 := IntWalk.i64_in _ (by omega)
      have g1 := docs_at hx
      rw [Nat.zero_add] at g1
      obtain ⟨n', nx, hle, hcn⟩ := ih (i + 1) (n + partsV x.v 5000) (by omega) (by omega) (by omega) (by omega)
      exact ⟨n', loop_next (body_of_sbodyK mixedz (b8_0 W D i n (partsV x.v 5000) x) (by clear nx ih; exact Sn_z2) [] [] (σ3 := S8 D (n + partsV x.v 5000) (i + 1)) (by clear nx ih; exact Sn_z1)) nx, by omega, fun h => by
        have := hcn h
        have := parts_cnt x.v 5000 (by omega)
        rw [drop_cons hx]; simp only [dcnt]; omega⟩
  obtain ⟨n', hlp, h0n, hcn⟩ := loop D.length 0 0 (by omega) (by omega) (by omega) (by omega)
  by_cases h150 : 150 < D.length
  · have e : decide (150 < ((docsA D).length : Int)) = true := by rw [hDl]; exact decide_eq_true (by omega)
    exact ⟨true, pure_of_mut rfl (mut_of_sfun mixedz call8 rfl (p8_0 W D n') Sn_z2), fun h => by cases h⟩
  · have e : decide (150 < ((docsA D).length : Int)) = false := by rw [hDl]; exact decide_eq_false (by omega)
    refine ⟨_, pure_of_mut rfl (mut_of_sfun mixedz call8 rfl (p8_1 W D n') Sn_z2), fun hg => ?_⟩
    have := hcn (by have := of_decide_eq_false hg; omega)
    rw [List.drop_zero] at this
    omega
end
end Dd
end Go.Ac

