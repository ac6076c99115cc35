/- What is proved: contracts of functions of this translation, walked; their plain meaning. No condition beyond those that each theorem names. -/
import Derived.Test.YtohlmhkiejpkgaaGreatDoorPl1
import Derived.Test.YtohlmhkiejpkgaaGreatDoorFl1
import Derived.Test.YtohlmhkiejpkgaaGreatDoorFr1
set_option linter.all false
namespace Go.Ac
open Go Go.Proofs
set_option maxRecDepth 10000
set_option maxHeartbeats 1000000
theorem Fb19_z1 {kp f ph σ σ'} (h : MatchK kp f ph σ σ' := by exact ⟨by rfl, (by simp only [S28, B28, S14, E14, tOK, List.map_cons, List.map_nil, and_true] <;> exact zt), (by simp only [S28, B28, S14, E14, hOK, List.map_cons, List.map_nil, and_true] <;> exact zh), (by simp only [S28, B28, S14, E14, liveT, List.map_cons, List.map_nil, and_true] <;> exact zv), (by simp only [S28, B28, S14, E14, liveH, List.map_cons, List.map_nil, and_true] <;> exact zv)⟩) : MatchK kp f ph σ σ' := h
theorem Fb19_z3 {cs} (h : Holds cs := by simp only [Holds, and_true] <;> and_intros <;> first | exact zd) : Holds cs := h
theorem Fb19_z4 {cs} (h : Holds cs := by simp only [Holds, and_true] <;> and_intros <;> first | exact zd | exact Fb19_z1) : Holds cs := h
def B28 (h : JH) (n m : Nat) : AV := .agg [iA h.kind, iA 0, .str [], .gs 100003 0 n, .gs 100004 0 m]
def S28 (h : JH) (l : List JV) (ns : List (List UInt8)) (ks : List JV) (i : Int) : AS := ⟨[(1, .gp 100000 0), (2, .gp 100001 0), (3, .gp 100002 0), (4, iA i)], [(100000, .box (encV (.mk h l)) .own), (100001, .box (.agg [iA 0, iA 0, .str [], .val (.slice none 0 0), .val (.slice none 0 0)]) .own), (100002, .box (B28 h ns.length ks.length) .own), (100003, .arr 9 1 (ns.map AV.str) .own), (100004, .arr 25 5 (encVs ks) .own)]⟩
def S14 (l : List JV) (n : Int) (i : Nat) : AS := ⟨[(0, .sl 5 (encVs l) []), (3, iA n), (4, iA i)], []⟩
def E14 (n : Int) : AS := ⟨[(3, iA n)], []⟩
theorem b28_0 (W : World) (h : JH) (l : List JV) (ns : List (List UInt8)) (ks : List JV) (i : Int) (x : List UInt8) (h2 : JH) (l2 : List JV) : sQ W { lp := true } 28 0 [] [1, 2, 3, 4] (S28 h l ns ks i) [bt, .lg, oS (.str x), aE 1, .lg, .lg, .lg, oS (eV h2 l2), aE 1, .lg, .lg, ee] = .ok ((.normal, { t := [(1, .gp 100000 0), (2, .gp 100001 0), (3, .gp 100002 0), (4, iA (IntKind.i64.wrap (i - 1)))], h := [(100000, gB (eV h l)), (100001, gB (.agg [iA 0, iA 0, .str [], .val (Value.slice none 0 0), .val (Value.slice none 0 0)])), (100002, gB (.agg [iA h.kind, iA 0, .str [], .gs 100006 0 (ns.length + [AV.str x].length), .gs 100008 0 (ks.length + [eV h2 l2].length)])), (100003, .dead), (100004, .dead), (100005, .arr 9 1 [.str x] .own), (100006, .arr 9 1 (List.take ns.length (List.map AV.str ns) ++ [AV.str x]) .own), (100007, .arr 25 5 [eV h2 l2] .own), (100008, .arr 25 5 (List.take ks.length (encVs ks) ++ [eV h2 l2]) .own)] }), [ee], [(ks.length + [eV h2 l2].length) * 80 ≤ 140737488355328, (St.own = St.own ∨ St.own = St.shr ∧ ks.length = (encVs ks).length) ∧ ks.length ≤ (encVs ks).length, (encVs l)[i.toNat]? = some (eV h2 l2), 0 ≤ i, (ns.length + [AV.str x].length) * 16 ≤ 140737488355328, (St.own = St.own ∨ St.own = St.shr ∧ ns.length = (List.map AV.str ns).length) ∧ ns.length ≤ (List.map AV.str ns).length, (List.map AV.str h.names)[i.toNat]? = some (AV.str x), 0 ≤ i, decide (0 ≤ i) = true]) := by kernel_rfl
theorem b28_1 (W : World) (h : JH) (l : List JV) (ns : List (List UInt8)) (ks : List JV) (i : Int) : sQ W { lp := true } 28 0 [] [1, 2, 3, 4] (S28 h l ns ks i) [bf, ee] = .ok ((.exit 0, { t := [(1, .gp 100000 0), (2, .gp 100001 0), (3, .gp 100002 0), (4, iA i)], h := [(100000, gB (eV h l)), (100001, gB (.agg [iA 0, iA 0, .str [], .val (Value.slice none 0 0), .val (Value.slice none 0 0)])), (100002, gB (.agg [iA h.kind, iA 0, .str [], .gs 100003 0 ns.length, .gs 100004 0 ks.length])), (100003, .arr 9 1 (List.map AV.str ns) .own), (100004, .arr 25 5 (encVs ks) .own)] }), [ee], [decide (0 ≤ i) = false]) := by kernel_rfl
theorem p28_0 (W : World) (h : JH) (l : List JV) (ns : List (List UInt8)) (ks : List JV) (m : Int) : sF W { lp := true, fin := 9, tl := [65] } 28 [eV h l] [] 100000 [ee, cR (iA m) [], ee, .loopM [] [(100003, 1), (100004, 5)] (S28 h l [] [] (m - 1)) (.exit 0) (S28 h l ns ks (-1)), ee, .fin [] [] (B28 h ns.length ks.length) [(100003, .arr 9 1 (List.map AV.str ns) .own), (100004, .arr 25 5 (encVs ks) .own)], ee] [] = .ok (.ret (.agg [iA h.kind, iA 0, .str [], .gs 100003 0 ns.length, .gs 100004 0 ks.length]) [(100003, .arr 9 1 (List.map AV.str ns) .own), (100004, .arr 25 5 (encVs ks) .own)], [ee], [MatchK [] [] [] { t := [(0, .agg [iA h.kind, iA 0, .str [], .gs 100003 0 ns.length, .gs 100004 0 ks.length])], h := [(100000, gB (eV h l)), (100001, gB (.agg [iA h.kind, iA 0, .str [], .gs 100003 0 ns.length, .gs 100004 0 ks.length])), (100002, gB (.agg [iA h.kind, iA 0, .str [], .gs 100003 0 ns.length, .gs 100004 0 ks.length])), (100003, .arr 9 1 (List.map AV.str ns) .own), (100004, .arr 25 5 (encVs ks) .own)] } { t := [(0, .agg [iA h.kind, iA 0, .str [], .gs 100003 0 ns.length, .gs 100004 0 ks.length])], h := [(100003, .arr 9 1 (List.map AV.str ns) .own), (100004, .arr 25 5 (encVs ks) .own)] }, LZ W [] 28 0 (S28 h l [] [] (m - 1)) (.exit 0) (S28 h l ns ks (-1)), MatchK [] [] [(100003, 1), (100004, 5)] { t := [(1, .gp 100000 0), (2, .gp 100001 0), (3, .gp 100002 0), (4, iA (IntKind.i64.wrap (m - 1)))], h := [(100000, gB (eV h l)), (100001, gB (.agg [iA 0, iA 0, .str [], .val (Value.slice none 0 0), .val (Value.slice none 0 0)])), (100002, gB (.agg [iA h.kind, iA 0, .str [], .val (Value.slice none 0 0), .val (Value.slice none 0 0)]))] } (S28 h l [] [] (m - 1)), MZ W 65 [eV h l] [] (.ret (iA m) [])]) := by kernel_rfl
theorem b14_0 (W : World) (l : List JV) (n m : Int) (i : Nat) (h : JH) (k : List JV) : sQ W { lp := true, tl := [60] } 14 0 [] [0, 3, 4] (S14 l n i) [bt, aE 1, oS (eV h k), ee, cR (iA m) [], ee] = .ok ((.normal, { t := [(0, sL 5 (encVs l)), (3, iA (IntKind.i64.wrap (n + m))), (4, iA (IntKind.i64.wrap ((↑i : Int) + 1)))], h := [] }), [ee], [MZ W 60 [eV h k, iA 5000] [] (.ret (iA m) []), (encVs l)[(↑i : Int).toNat]? = some (eV h k), decide ((↑i : Int) < (↑(encVs l).length : Int)) = true]) := by kernel_rfl
theorem b14_1 (W : World) (l : List JV) (n : Int) (i : Nat) (h : JH) : sQ W { lp := true, tl := [60] } 14 0 [] [0, 3, 4] (S14 l n i) [bf, ee] = .ok ((.exit 0, { t := [(0, sL 5 (encVs l)), (3, iA n), (4, iA (↑i : Int))], h := [] }), [ee], [decide ((↑i : Int) < (↑(encVs l).length : Int)) = false]) := by kernel_rfl
theorem p14_0 (W : World) (l : List JV) (n : Int) : sF W { lp := true } 14 [.sl 5 (encVs l) []] [] 100000 [ee, .loopM [] [] (S14 l 0 0) (.exit 0) (E14 n), ee] [] = .ok (.ret (bA (decide (5000 < n))) [], [ee], [LZ W [] 14 0 (S14 l 0 0) (.exit 0) (E14 n), MatchK [] [] [] { t := [(0, sL 5 (encVs l)), (3, iA 0), (4, iA 0)], h := [] } (S14 l 0 0)]) := by kernel_rfl
theorem p27_0 (W : World) (h : JH) (l : List JV) (h2 : JH) (l2 : List JV) (F : AV) (b : Bool) : sF W { lp := true, tl := [17, 20] } 27 [eV h l, eV h2 l2] [] 100000 [ee, cR (.tup [F.ip 0, iA 0]) [], ee, cR (bA b) [], ee] [] = .ok (.ret (.tup [bA b, bA true]) [], [ee], [MZ W 20 [F.ip 0, eV h2 l2] [] (.ret (bA b) []), MZ W 17 [eV h l] [] (.ret (.tup [F.ip 0, iA 0]) [])]) := by kernel_rfl
theorem call28 : callable Tryz.prog 28 = true := by kernel_rfl
theorem call27 : callable Tryz.prog 27 = true := by kernel_rfl
theorem call14 : callable Tryz.prog 14 = true := by kernel_rfl
theorem pushS (ns : List (List UInt8)) (x : List UInt8) : List.take ns.length (List.map AV.str ns) ++ [AV.str x] = List.map AV.str (ns ++ [x]) := by
  rw [List.take_of_length_le (by simp), List.map_append]; rfl
theorem rev_drop {α : Type} {l : List α} {j : Nat} {x : α} (h : l[j]? = some x) : (l.drop j).reverse = (l.drop (j + 1)).reverse ++ [x] := by rw [drop_get h, List.reverse_cons]
section
variable (W : World)
theorem loop28 (h : JH) (l : List JV) (N : List (List UInt8)) (K : List JV) (hN : ∀ (j : Nat) (x : List UInt8), N[j]? = some x → h.names[j]? = some x) (hK : ∀ (j : Nat) (x : JV), K[j]? = some x → l[j]? = some x) (hlen : N.length = K.length) (hbd : N.length ≤ 2 ^ 30) : ∀ j : Nat, j ≤ N.length →
    LoopC Tryz.prog W [] (nslots Tryz.prog 28) (loopOf Tryz.prog 28 0) (S28 h l (N.drop j).reverse (K.drop j).reverse ((j : Int) - 1)) (.exit 0) (S28 h l N.reverse K.reverse (-1)) := by
  intro j
  induction j with
  | zero =>
    intro _
    rw [List.drop_zero, List.drop_zero]
    exact loop_last (by simp) (body_of_sbodyK mixedz (b28_1 W h l N.reverse K.reverse _) Fb19_z3 [] [] Fb19_z1)
  | succ j ih =>
    intro hj
    obtain ⟨x, hx⟩ := getOf (l := N) (i := j) (by omega)
    obtain ⟨y, hy⟩ := getOf (l := K) (i := j) (by omega)
    have hws : IntKind.i64.wrap (((j + 1 : Nat) : Int) - 1 - 1) = (j : Int) - 1 := by rw [IntWalk.i64_in _ (by omega)]; omega
    have hi : (((j + 1 : Nat) : Int) - 1).toNat = j := by omega
    have hget : (List.map AV.str h.names)[(((j + 1 : Nat) : Int) - 1).toNat]? = some (AV.str x) := by rw [hi]; exact strs_get (hN j x hx)
    have hget2 : (encVs l)[(((j + 1 : Nat) : Int) - 1).toNat]? = some (encV y) := by rw [hi]; exact encVs_get (hK j y hy)
    have ih' := ih (by omega)
    rw [rev_drop hx, rev_drop hy] at ih'
    have l1 : (N.drop (j + 1)).reverse.length ≤ 2 ^ 30 := by simp only [List.length_reverse, List.length_drop]; omega
    have l2 : (K.drop (j + 1)).reverse.length ≤ 2 ^ 30 := by simp only [List.length_reverse, List.length_drop]; omega
    generalize (N.drop (j + 1)).reverse = ns at ih' l1 ⊢
    generalize (K.drop (j + 1)).reverse = ks at ih' l2 ⊢
    obtain ⟨h2, k2⟩ := y
    refine loop_next (body_of_sbodyK mixedz (b28_0 W h l ns ks _ x h2 k2) Fb19_z3 [(100003, 100006), (100004, 100008)] [] Fb19_z1) ih'
theorem turned28 (q : JV) (hcn : cntV q ≤ 2 ^ 30) : Pure Tryz.prog W 28 [encV q] (encV (turnV q)) := by
  have hc := mut_of_pure (by simp only [cloL, encV_clo, Bool.and_self]) (members65 W q)
  have hcl := cntV_len q
  have m1 := q.mem_names
  have m2 := q.mem_items
  obtain ⟨h, l⟩ := q
  simp only [JV.names, JV.items, JV.hd] at hcl m1 m2
  generalize hm : (JV.mk h l).mem = m at hc m1 m2
  have hws : IntKind.i64.wrap ((m : Int) - 1) = (m : Int) - 1 := IntWalk.i64_in _ (by omega)
  have hlp := loop28 W h l (h.names.take m) (l.take m) (fun j x hx => by
    rw [List.getElem?_take] at hx; split at hx; exact hx; cases hx) (fun j x hx => by
    rw [List.getElem?_take] at hx; split at hx; exact hx; cases hx) (by simp only [List.length_take]; omega) (by simp only [List.length_take]; omega) m (by simp only [List.length_take]; omega)
  rw [List.drop_of_length_le (by simp only [List.length_take]; omega), List.drop_of_length_le (by simp only [List.length_take]; omega), List.reverse_nil, List.reverse_nil] at hlp
  have hT : encV (turnV (.mk h l)) = .agg [iA h.kind, iA 0, .str [], .sl 1 ((h.names.take m).reverse.map AV.str) [], .sl 5 (encVs (l.take m).reverse) []] := by
    rw [← hm]; rfl
  generalize (h.names.take m).reverse = ns at hlp hT
  generalize (l.take m).reverse = ks at hlp hT
  have hM := mut_of_sfun mixedz call28 rfl (p28_0 W h l ns ks m) Fb19_z4
  refine pure_frz [(100003, .arr 9 1 (ns.map AV.str) .own), (100004, .arr 25 5 (encVs ks) .own)] hM ?_ ?_ (encV_clo _)
  · intro p hp
    simp only [List.mem_cons, List.not_mem_nil, or_false] at hp
    rcases hp with rfl | rfl
    · exact ⟨by simp [hg], by simp [Frzable, cloL_str]⟩
    · exact ⟨by simp [hg], by simp [Frzable, encVs_clo]⟩
  · rw [hT]
    have e1 : List.take ns.length (List.map AV.str ns) = List.map AV.str ns := List.take_of_length_le (by simp)
    have e2 : List.take ks.length (encVs ks) = encVs ks := List.take_of_length_le (by rw [encVs_len]; exact Nat.le_refl _)
    simp [B28, clA, clL, lk, iA, encVs_len, e1, e2]
theorem matches27 {n : Nat} {q x : JV} {t : Int} (hk : chkQ n q 0 0 = .ok t) (hsz : sizeV q < n) (hcn : cntV q ≤ 2 ^ 30) (hnm : nmV q) (hx : cntV x ≤ 2 ^ 30) : Pure Tryz.prog W 27 [encV q, encV x] (.tup [bA (matchF n q x), bA true]) := by
  have hc1 := mut_of_pure (by simp only [cloL, encV_clo, Bool.and_self]) (parse17 W hk hsz hcn hnm)
  have hc2 := mut_of_pure (by simp only [cloL, encV_clo, Bool.and_self]; rfl) (match20 W hk hcn t hx)
  unfold filA at hc1 hc2
  obtain ⟨h, l⟩ := q
  obtain ⟨h2, l2⟩ := x
  exact pure_of_mut rfl (mut_of_sfun mixedz call27 rfl (p27_0 W h l h2 l2 _ _) Fb19_z3)
theorem loop14 (l : List JV) (hl : cntVs l ≤ 2 ^ 30) : ∀ (k i : Nat) (n : Int), l.length - i = k → i ≤ l.length → ∃ n', LoopC Tryz.prog W [] (nslots Tryz.prog 14) (loopOf Tryz.prog 14 0) (S14 l n i) (.exit 0) (E14 n') := by
  have hln := cntVs_len l
  intro k
  induction k with
  | zero =>
    intro i n hk h1
    exact ⟨n, loop_last (by simp) (body_of_sbodyK mixedz (b14_1 W l n i ⟨0, 0, [], []⟩) Fb19_z3 [] [] Fb19_z1)⟩
  | succ k ih =>
    intro i n hk h1
    obtain ⟨x, hx⟩ := getOf (l := l) (i := i) (by omega)
    have hws : IntKind.i64.wrap ((i : Int) + 1) = ((i + 1 : Nat) : Int) := wrap_succ (by omega)
    have hget : (encVs l)[((i : Int)).toNat]? = some (encV x) := by rw [Int.toNat_natCast]; exact encVs_get hx
    have hc := mut_of_pure (by simp only [cloL, encV_clo, Bool.and_self]; rfl) (parts W x 5000 (okV_cnt x (by have := cntVs_get hx; omega)) (by omega) (by omega))
    obtain ⟨n', h'⟩ := ih (i + 1) (IntKind.i64.wrap (n + partsV x 5000)) (by omega) (by omega)
    obtain ⟨h2, l2⟩ := x
    exact ⟨n', loop_next (body_of_sbodyK mixedz (b14_0 W l n _ i h2 l2) Fb19_z3 [] [] Fb19_z1) h'⟩
theorem large14 (l : List JV) (hl : cntVs l ≤ 2 ^ 30) : ∃ b, Pure Tryz.prog W 14 [.sl 5 (encVs l) []] (bA b) := by
  obtain ⟨n, hlp⟩ := loop14 W l hl l.length 0 0 (by simp) (by omega)
  exact ⟨_, pure_of_mut rfl (mut_of_sfun mixedz call14 rfl (p14_0 W l n) Fb19_z4)⟩
end
end Go.Ac

