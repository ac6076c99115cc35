/- What is proved: contracts of functions of this translation, walked; their plain meaning. No condition beyond those that each theorem names. -/
import Derived.Test.YtohlmhkiejpkgaaGreatDoorFn1
set_option linter.all false
namespace Go.Ac
open Go Go.Proofs
set_option maxRecDepth 10000
set_option maxHeartbeats 2000000
section
variable (W : World)
theorem take_flat {α : Type} {rs : List (List α)} {i : Nat} {r : List α} (h : rs[i]? = some r) : (rs.take (i + 1)).flatten = (rs.take i).flatten ++ r := by rw [take_snoc h, List.flatten_append]; simp
theorem flat_le {α : Type} (rs : List (List α)) (i : Nat) : (rs.take i).flatten.length ≤ rs.flatten.length := by
  have e : rs.flatten = (rs.take i).flatten ++ (rs.drop i).flatten := by rw [← List.flatten_append, List.take_append_drop]
  rw [e, List.length_append]; omega
theorem cloL_flat2 : ∀ {rs : List (List AV)}, (∀ r ∈ rs, cloL r = true) → cloL rs.flatten = true
  | [], _ => rfl
  | r :: rs, h => by rw [List.flatten_cons, cloL_app, h r (by simp), cloL_flat2 (rs := rs) fun x hx => h x (by simp [hx])]; rfl
theorem loopQ73 (ns : List AV) (rs : List (List AV)) (hlen : ns.length = rs.length) (hn : ns.length ≤ 2 ^ 30) (hcr : ∀ r ∈ rs, cloL r = true) (hb : rs.flatten.length ≤ 2 ^ 31)
    (H : ∀ (i : Nat) nd r, ns[i]? = some nd → rs[i]? = some r → MutC Tryz.prog W 73 [nd] [] (.ret (.sl 7 r []) []) ∧ ((∃ s Q, nd = groupA s Q) ∨ ∃ s P T, nd = clauseA s P T)) : ∀ (j i : Nat), ns.length - i = j → i ≤ ns.length →
    LoopC Tryz.prog W [] (nslots Tryz.prog 73) (loopOf Tryz.prog 73 0) (Q73 ns (rs.take i).flatten i) (.exit 1) (E73 rs.flatten) := by
  intro j
  induction j with
  | zero =>
    intro i hk hle
    have e : i = ns.length := by omega
    subst e
    rw [hlen, List.take_length, ← hlen]
    have hcl := cloL_flat2 hcr
    exact loop_last (by simp) (body_of_sbodyK mixedz (bqg_1 W ns rs.flatten ns.length) Fn1_z2 [] [] Fn1_z1)
  | succ j ih =>
    intro i hk hle
    obtain ⟨nd, hnd⟩ := getOf (l := ns) (i := i) (by omega)
    obtain ⟨r, hr⟩ := getOf (l := rs) (i := i) (by omega)
    have hws : IntKind.i64.wrap ((i : Int) + 1) = ((i + 1 : Nat) : Int) := wrap_succ (by omega)
    have hnx := ih (i + 1) (by omega) (by omega)
    have hbl := flat_le rs (i + 1)
    rw [take_flat hr] at hnx hbl
    have hcl : cloL (rs.take i).flatten = true := cloL_flat2 fun x hx => hcr x (List.mem_of_mem_take hx)
    have hcx := hcr r (List.mem_of_getElem? hr)
    obtain ⟨hc, hform⟩ := H i nd r hnd hr
    have hget : ns[((i : Int)).toNat]? = some nd := by rw [Int.toNat_natCast]; exact hnd
    generalize (rs.take i).flatten = acc at hnx hbl hcl ⊢
    have hcl2 := cloL_app2 _ _ hcl hcx
    have hgl : acc.length + r.length = (acc ++ r).length := by rw [List.length_append]
    have hset : List.take acc.length acc ++ r = acc ++ r := by rw [List.take_length]
    have hb2 : acc.length + r.length ≤ 2 ^ 31 := by rw [List.length_append] at hbl; omega
    rcases hform with ⟨s, Q, rfl⟩ | ⟨s, P, T, rfl⟩
    · exact loop_next (body_of_sbodyK mixedz (bqg_0 W ns acc r i Q s) Fn1_z2 [(100001, 100002)] [] Fn1_z1) hnx
    · exact loop_next (body_of_sbodyK mixedz (bqc_0 W ns acc r i P T s) Fn1_z2 [(100001, 100002)] [] Fn1_z1) hnx
theorem loopG73 (ns : List AV) (rs : List (List AV)) (hlen : ns.length = rs.length) (hn : ns.length ≤ 2 ^ 30) (hcr : ∀ r ∈ rs, cloL r = true) (hb : rs.flatten.length ≤ 2 ^ 31)
    (H : ∀ (i : Nat) nd r, ns[i]? = some nd → rs[i]? = some r → MutC Tryz.prog W 73 [nd] [] (.ret (.sl 7 r []) []) ∧ ∃ Q, nd = .ifc 105 (.agg [.sl 1 Q []])) : ∀ (j i : Nat), ns.length - i = j → i ≤ ns.length →
    LoopC Tryz.prog W [] (nslots Tryz.prog 73) (loopOf Tryz.prog 73 1) (G73 ns (rs.take i).flatten i) (.exit 3) (E73 rs.flatten) := by
  intro j
  induction j with
  | zero =>
    intro i hk hle
    have e : i = ns.length := by omega
    subst e
    rw [hlen, List.take_length, ← hlen]
    have hcl := cloL_flat2 hcr
    exact loop_last (by simp) (body_of_sbodyK mixedz (bg_1 W ns rs.flatten ns.length) Fn1_z2 [] [] Fn1_z1)
  | succ j ih =>
    intro i hk hle
    obtain ⟨nd, hnd⟩ := getOf (l := ns) (i := i) (by omega)
    obtain ⟨r, hr⟩ := getOf (l := rs) (i := i) (by omega)
    have hws : IntKind.i64.wrap ((i : Int) + 1) = ((i + 1 : Nat) : Int) := wrap_succ (by omega)
    have hnx := ih (i + 1) (by omega) (by omega)
    have hbl := flat_le rs (i + 1)
    rw [take_flat hr] at hnx hbl
    have hcl : cloL (rs.take i).flatten = true := cloL_flat2 fun x hx => hcr x (List.mem_of_mem_take hx)
    have hcx := hcr r (List.mem_of_getElem? hr)
    obtain ⟨hc, Q, rfl⟩ := H i nd r hnd hr
    have hget : ns[((i : Int)).toNat]? = some (.ifc 105 (.agg [.sl 1 Q []])) := by rw [Int.toNat_natCast]; exact hnd
    generalize (rs.take i).flatten = acc at hnx hbl hcl ⊢
    have hcl2 := cloL_app2 _ _ hcl hcx
    have hgl : acc.length + r.length = (acc ++ r).length := by rw [List.length_append]
    have hset : List.take acc.length acc ++ r = acc ++ r := by rw [List.take_length]
    have hb2 : acc.length + r.length ≤ 2 ^ 31 := by rw [List.length_append] at hbl; omega
    exact loop_next (body_of_sbodyK mixedz (bg_0 W ns acc r i Q) Fn1_z2 [(100001, 100002)] [] Fn1_z1) hnx
theorem query73 (ns : List AV) (rs : List (List AV)) (hlen : ns.length = rs.length) (hn : ns.length ≤ 2 ^ 30) (hcr : ∀ r ∈ rs, cloL r = true) (hb : rs.flatten.length ≤ 2 ^ 31)
    (H : ∀ (i : Nat) nd r, ns[i]? = some nd → rs[i]? = some r → MutC Tryz.prog W 73 [nd] [] (.ret (.sl 7 r []) []) ∧ ((∃ s Q, nd = groupA s Q) ∨ ∃ s P T, nd = clauseA s P T)) : Pure Tryz.prog W 73 [.ifc 105 (.agg [.sl 1 ns []])] (.sl 7 rs.flatten []) := by
  have hlp := loopQ73 W ns rs hlen hn hcr hb H _ 0 rfl (Nat.zero_le _)
  rw [List.take_zero, List.flatten_nil] at hlp
  have hcl := cloL_flat2 hcr
  exact pure_frz1 (mut_of_sfun mixedz call73 rfl (pq_0 W ns rs.flatten) Fn1_z2) rfl hcl
theorem and73 (ns : List AV) (rs : List (List AV)) (hlen : ns.length = rs.length) (hn : ns.length ≤ 2 ^ 30) (hcr : ∀ r ∈ rs, cloL r = true) (hb : rs.flatten.length ≤ 2 ^ 31)
    (H : ∀ (i : Nat) nd r, ns[i]? = some nd → rs[i]? = some r → MutC Tryz.prog W 73 [nd] [] (.ret (.sl 7 r []) []) ∧ ∃ Q, nd = .ifc 105 (.agg [.sl 1 Q []])) : Pure Tryz.prog W 73 [groupA sAnd ns] (.sl 7 rs.flatten []) := by
  have hlp := loopG73 W ns rs hlen hn hcr hb H _ 0 rfl (Nat.zero_le _)
  rw [List.take_zero, List.flatten_nil] at hlp
  have hcl := cloL_flat2 hcr
  exact pure_frz1 (mut_of_sfun mixedz call73 rfl (pg_0 W ns rs.flatten) Fn1_z2) rfl hcl
theorem nogroup73 (s : List UInt8) (ns : List AV) (h : s ≠ sAnd) : Pure Tryz.prog W 73 [groupA s ns] (.sl 7 [] []) := by
  have hd : (!decide (s = sAnd)) = true := by rw [decide_eq_false h]; rfl
  exact pure_leR (.nil 7) (pure_of_mut rfl (mut_of_sfun mixedz call73 rfl (pgn_0 W s ns) ⟨hd, trivial⟩))
theorem needs73 : ∀ (n : Nat) (q : JV), cntV q ≤ 2 ^ 30 → Pure Tryz.prog W 73 [.ifc 105 (.agg [.sl 1 (qN n q) []])] (.sl 7 ((needF n q).map encN) [])
  | 0, q, _ => by
    rw [qN, needF]
    exact query73 W [] [] rfl (by simp) (by simp) (by simp) (fun i nd r h _ => by simp at h)
  | n + 1, q, hc => by
    have hml := q.mems_len
    have hmn := q.mem_items
    have hcl := cntV_len q
    have e : (needF (n + 1) q).map encN = (q.mems.map fun p => (needG n p).map encN).flatten := by
      rw [needF_eq, List.flatMap, List.map_flatten, List.map_map]; rfl
    have hnl := need_len (n + 1) q
    rw [e]
    rw [show qN (n + 1) q = q.mems.map (nodeA n) by rw [qN]; rfl]
    refine query73 W _ _ (by simp) (by simp only [List.length_map]; omega) (fun r hr => ?_) (by rw [← e, List.length_map]; omega) (fun i nd r h1 h2 => ?_)
    · obtain ⟨p, _, rfl⟩ := List.mem_map.1 hr
      exact cloL_encN _
    · rw [List.getElem?_map] at h1 h2
      cases hp : q.mems[i]? with
      | none => rw [hp] at h1; cases h1
      | some p =>
        rw [hp] at h1 h2
        simp only [Option.map_some, Option.some.injEq] at h1 h2
        subst h1 h2
        have hpm := mems_item (List.mem_of_getElem? hp)
        obtain ⟨k, hk⟩ := List.getElem?_of_mem hpm
        have hcp := cntV_item hk
        have hcl2 := cntV_len p.2
        unfold nodeA needG
        cases hj : joinsB p.1 with
        | true =>
          simp only [if_true]
          refine ⟨?_, .inl ⟨_, _, rfl⟩⟩
          by_cases ha : p.1 = sAnd
          · rw [if_pos ha, ha]
            have e2 : (p.2.items.flatMap (needF n)).map encN = (p.2.items.map fun y => (needF n y).map encN).flatten := by
              rw [List.flatMap, List.map_flatten, List.map_map]; rfl
            have hfl := flat_cnt (needF n) (need_len n) p.2.items
            have hci := cntV_eq p.2
            rw [e2]
            refine mut_of_pure (by rfl) (and73 W _ _ (by simp [nodesQ]) (by simp only [nodesQ, List.length_map]; omega) (fun r hr => ?_) (by rw [← e2, List.length_map]; omega) (fun i nd r h1 h2 => ?_))
            · obtain ⟨y, _, rfl⟩ := List.mem_map.1 hr
              exact cloL_encN _
            · unfold nodesQ at h1
              rw [List.getElem?_map] at h1 h2
              cases hy : p.2.items[i]? with
              | none => rw [hy] at h1; cases h1
              | some y =>
                rw [hy] at h1 h2
                simp only [Option.map_some, Option.some.injEq] at h1 h2
                subst h1 h2
                have hcy := cntV_item hy
                exact ⟨mut_of_pure (by rfl) (needs73 n y (by omega)), _, rfl⟩
          · rw [if_neg ha]
            exact mut_of_pure (by rfl) (nogroup73 W p.1 _ ha)
        | false =>
          simp only [Bool.false_eq_true, if_false]
          refine ⟨?_, .inr ⟨_, _, _, rfl⟩⟩
          have hcm := clauseM_len n p.2
          cases ht : isTestB p.2 with
          | true =>
            simp only [if_true]
            cases n with
            | zero =>
              rw [tT]
              unfold clauseM
              rw [ht]
              simp only [if_true]
              exact mut_of_pure (by rfl) (clause73 W p.1 _ (fun p => asksA [] [] p.1 p.2) (fun p => asks_fn _ _ _ _) [] (by simp))
            | succ n =>
              rw [tT]
              unfold clauseM at hcm ⊢
              rw [ht] at hcm ⊢
              simp only [if_true] at hcm ⊢
              exact mut_of_pure (by rfl) (clause73 W p.1 _ _ (fun p => asks_fn _ _ _ _) p.2.mems (by omega))
          | false =>
            simp only [Bool.false_eq_true, if_false]
            unfold clauseM
            rw [ht]
            simp only [Bool.false_eq_true, if_false]
            exact mut_of_pure (by rfl) (clause73 W p.1 _ _ (fun p => asks_fn _ _ _ _) [(sEq, p.2)] (by simp))
end
end Go.Ac

