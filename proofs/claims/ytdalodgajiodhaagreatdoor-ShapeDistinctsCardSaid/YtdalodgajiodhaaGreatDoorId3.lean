/- What is proved: contracts of functions of this translation, walked; their plain meaning. No condition beyond those that each theorem names. -/
import Derived.Test.YtdalodgajiodhaaGreatDoorId2
set_option linter.all false
namespace Go.Ac
open Go Go.Proofs
set_option maxRecDepth 10000
set_option maxHeartbeats 1000000
namespace Dd
def ltV (x y : JV) : Bool := decide (cmpF N0 x y < 0)
theorem ltV_swo : SWO ltV := (cmpF_cmp N0).swo
abbrev GS := {x : JV // cntV x ≤ 2 ^ 30}
def eG (x : GS) : AV := encV x.1
def ltG (x y : GS) : Bool := ltV x.1 y.1
theorem ltG_swo : SWO ltG := (cmp_key (cmpF_cmp N0) (Subtype.val : GS → JV)).swo
theorem eG_enc (D : List GS) : D.map eG = encVs (D.map Subtype.val) := by rw [encVs_map, List.map_map]; rfl
theorem sort_map {α β : Type} (f : α → β) (l1 : α → α → Bool) (l2 : β → β → Bool) (h : ∀ x y, l1 x y = l2 (f x) (f y)) : ∀ L : List α, (sortS l1 L).map f = sortS l2 (L.map f) := by
  have ins : ∀ (x : α) (L : List α), (insS l1 x L).map f = insS l2 (f x) (L.map f) := by
    intro x L
    induction L with
    | nil => rfl
    | cons y L ih =>
      simp only [insS, List.map_cons, h]
      split
      · rw [List.map_cons, ih]
      · rfl
  intro L
  induction L with
  | nil => rfl
  | cons x L ih => simp only [sortS, List.map_cons, ins, ih]
theorem lift (l : List JV) (h : ∀ x ∈ l, cntV x ≤ 2 ^ 30) : ∃ D : List GS, D.map Subtype.val = l := by
  induction l with
  | nil => exact ⟨[], rfl⟩
  | cons x l ih =>
    obtain ⟨D, hD⟩ := ih fun y hy => h y (List.mem_cons_of_mem _ hy)
    exact ⟨⟨x, h x (by simp)⟩ :: D, by rw [List.map_cons, hD]⟩
section
variable (W : World)
theorem cmp36 (x y : JV) (hx : cntV x ≤ 2 ^ 30) : MutC Tryz.prog W 36 [encV x, encV y] [] (.ret (iA (cmpF N0 x y)) []) :=
  mut_of_pure (by simp only [cloL, encV_clo, Bool.and_self]) (compare81 W N0 x y (by have := size_cnt x; unfold N0; omega) hx)
theorem getE {l : List JV} {i : Nat} {x : JV} (h : l[i]? = some x) : (encVs l)[0 + ((i : Int)).toNat]? = some (encV x) := by rw [Int.toNat_natCast, Nat.zero_add]; exact encVs_get h
theorem srt (N : Nat) : SI.SrtI W eG ltG N := by
  refine ⟨fun D => by rw [eG_enc]; exact encVs_clo _, fun D i j hN hi hj => ?_, fun D i j hN hi hj => ?_, fun D hN => ?_⟩
  · obtain ⟨x, hx⟩ := getOf (l := D) (i := i) (by omega)
    obtain ⟨y, hy⟩ := getOf (l := D) (i := j) (by omega)
    rw [ltAt_eq hx hy]
    unfold SI.arrE
    rw [eG_enc]
    have g1 : (encVs (D.map Subtype.val))[0 + ((i : Int)).toNat]? = some (encV x.1) := getE (by rw [List.getElem?_map, hx]; rfl)
    have g2 : (encVs (D.map Subtype.val))[0 + ((j : Int)).toNat]? = some (encV y.1) := getE (by rw [List.getElem?_map, hy]; rfl)
    have h36 := cmp36 W x.1 y.1 x.2
    show MutC _ _ _ _ _ (.ret (bA (decide (cmpF N0 x.1 y.1 < 0))) _)
    generalize cmpF N0 x.1 y.1 = z at *
    obtain ⟨⟨hx', lx⟩, px⟩ := x
    obtain ⟨⟨hy', ly⟩, py⟩ := y
    exact mut_of_sfun mixedz call167 rfl (p167_0 W (D.map Subtype.val) hx' hy' lx ly i N j z) Id_z2
  · obtain ⟨x, hx⟩ := getOf (l := D) (i := i) (by omega)
    obtain ⟨y, hy⟩ := getOf (l := D) (i := j) (by omega)
    have hs : swapL D i j = (D.set i y).set j x := by unfold swapL; rw [hx, hy]
    rw [hs]
    unfold SI.arrE
    rw [eG_enc D]
    have g1 : (encVs (D.map Subtype.val))[0 + ((i : Int)).toNat]? = some (encV x.1) := getE (by rw [List.getElem?_map, hx]; rfl)
    have g2 : (encVs (D.map Subtype.val))[0 + ((j : Int)).toNat]? = some (encV y.1) := getE (by rw [List.getElem?_map, hy]; rfl)
    have hset : ((encVs (D.map Subtype.val)).set (0 + ((i : Int)).toNat) (encV y.1)).set (0 + ((j : Int)).toNat) (encV x.1) = ((D.set i y).set j x).map eG := by
      rw [Int.toNat_natCast, Int.toNat_natCast, Nat.zero_add, Nat.zero_add, List.map_set, List.map_set, eG_enc]; rfl
    have hclo : cloL (((D.set i y).set j x).map eG) = true := by rw [eG_enc]; exact encVs_clo _
    have g3 : ((encVs (D.map Subtype.val)).set (0 + ((i : Int)).toNat) (encV y.1))[0 + ((j : Int)).toNat]? = some (encV y.1) := by
      rw [Int.toNat_natCast, Int.toNat_natCast, Nat.zero_add, Nat.zero_add, List.getElem?_set]
      rw [Int.toNat_natCast, Nat.zero_add] at g2
      split
      · split
        · rfl
        · rename_i h1 h2
          exfalso; apply h2
          rw [encVs_len, List.length_map]; omega
      · exact g2
    generalize ((D.set i y).set j x).map eG = els at *
    obtain ⟨⟨hx', lx⟩, px⟩ := x
    obtain ⟨⟨hy', ly⟩, py⟩ := y
    exact mut_of_sfun mixedz call168 rfl (p168_0 W (D.map Subtype.val) els hx' hy' lx ly i N j) Id_z2
  · unfold SI.arrE
    rw [eG_enc]
    exact mut_of_sfun mixedz call166 rfl (p166_0 W (D.map Subtype.val) N) Id_z2
theorem stable84 (l : List JV) (hl : l.length ≤ 2 ^ 40) (h : ∀ x ∈ l, cntV x ≤ 2 ^ 30) : MutC Tryz.prog W 84 [.ifc 109 (.gs 100001 0 l.length)] [(100001, .arr 25 5 (encVs l) .own)] (.ret (.tup []) [(100001, .arr 25 5 (encVs (sortS ltV l)) .own)]) := by
  obtain ⟨D, rfl⟩ := lift l h
  rw [List.length_map] at hl ⊢
  have := SI.sortMI W (srt W D.length) ltG_swo D hl rfl
  unfold SI.arrE SI.dT at this
  rw [eG_enc, eG_enc, sort_map Subtype.val ltG ltV (fun _ _ => rfl)] at this
  exact this
theorem zA_clo (n : Nat) : cloL (List.replicate n zA) = true := by
  induction n with
  | zero => rfl
  | succ n ih => rw [List.replicate_succ]; simp only [cloL, ih, Bool.and_true]; rfl
theorem clo2 (A : List JV) (n : Nat) : cloL (encVs A ++ List.replicate n zA) = true := by simp only [clo_append, encVs_clo, zA_clo, Bool.and_self]
theorem loop51 (l : List JV) (hl : l.length ≤ 2 ^ 30) (h : ∀ x ∈ l, cntV x ≤ 2 ^ 30) : ∀ (k i : Nat), l.length - i = k → i ≤ l.length → LoopC Tryz.prog W [100000] (nslots Tryz.prog 51) (loopOf Tryz.prog 51 0) (S51 l i) (.exit 0) (E51 l) := by
  have hlen := encVs_len l
  intro k
  induction k with
  | zero =>
    intro i hk hi
    have e : i = l.length := by omega
    subst e
    have hset : encVs (l.take l.length) ++ List.replicate (l.length - l.length) zA = encVs l := by rw [Nat.sub_self, List.take_length, List.replicate_zero, List.append_nil]
    have hclo := encVs_clo l
    exact loop_last (by simp) (body_of_sbodyK mixedz (b51_1 W l l.length) Id_z2 [] [] Id_z1)
  | succ k ih =>
    intro i hk hi
    obtain ⟨x, hx⟩ := getOf (l := l) (i := i) (by omega)
    have hws : IntKind.i64.wrap ((i : Int) + 1) = ((i + 1 : Nat) : Int) := wrap_succ (by omega)
    have hget := getE hx
    have nx := ih (i + 1) (by omega) (by omega)
    have hxc := h x (List.mem_of_getElem? hx)
    have h83 : MutC Tryz.prog W 83 [encV x] [] (.ret (encV x) []) := mut_of_pure (by simp only [cloL, encV_clo, Bool.and_self]) (copy66 W _ x (Nat.lt_succ_self _) (okV_cnt x hxc) hxc)
    have ht : (l.take i).length = i := by rw [List.length_take]; omega
    have e1 : encVs (l.take i) ++ List.replicate (l.length - i) zA = encVs (l.take i) ++ zA :: List.replicate (l.length - (i + 1)) zA := by
      rw [show l.length - i = (l.length - (i + 1)) + 1 by omega, List.replicate_succ]
    have hza : (encVs (l.take i) ++ List.replicate (l.length - i) zA)[0 + ((i : Int)).toNat]? = some zA := by
      rw [Int.toNat_natCast, Nat.zero_add, e1]; exact get_mid (by rw [encVs_len, ht])
    have hset : (encVs (l.take i) ++ List.replicate (l.length - i) zA).set (0 + ((i : Int)).toNat) (encV x) = encVs (l.take (i + 1)) ++ List.replicate (l.length - (i + 1)) zA := by
      rw [Int.toNat_natCast, Nat.zero_add, e1, set_mid (by rw [encVs_len, ht]), take_snoc hx, encVs_app, List.append_assoc]; rfl
    have hclo := clo2 (l.take (i + 1)) (l.length - (i + 1))
    obtain ⟨hx', lx⟩ := x
    exact loop_next (body_of_sbodyK mixedz (b51_0 W l hx' lx i) (by clear nx ih; exact Id_z2) [] [] (σ3 := S51 l (i + 1)) (by clear nx ih; exact Id_z1)) nx
theorem sort51 (l : List JV) (hl : cntVs l ≤ 2 ^ 30) : MutC Tryz.prog W 51 [.gs 100000 0 l.length] [(100000, .arr 25 5 (encVs l) .own)] (.ret (.gs 100001 0 l.length) [(100000, .arr 25 5 (encVs l) .own), (100001, .arr 25 5 (encVs (sortS ltV l)) .own)]) := by
  have hlc := len_cnt l
  have hx : ∀ x ∈ l, cntV x ≤ 2 ^ 30 := fun x hx => by
    obtain ⟨i, hi⟩ := List.getElem?_of_mem hx
    have := cntVs_get hi; omega
  have hst := stable84 W l (by omega) hx
  have hlp := loop51 W l (by omega) hx l.length 0 (by omega) (by omega)
  have hclo := clo2 [] (l.length - 0)
  have hset : List.replicate ((l.length : Int)).toNat zA = encVs [] ++ List.replicate (l.length - 0) zA := by rw [Int.toNat_natCast]; rfl
  generalize sortS ltV l = m at *
  exact mut_of_sfun mixedz call51 rfl (p51_0 W l m) Id_z2
end
end Dd
end Go.Ac

