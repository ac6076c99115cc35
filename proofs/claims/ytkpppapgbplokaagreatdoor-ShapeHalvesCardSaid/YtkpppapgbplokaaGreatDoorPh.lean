/- What is proved: contracts of functions of this translation, walked; their plain meaning. No condition beyond those that each theorem names. -/
import Derived.Test.YtkpppapgbplokaaGreatDoorMa6
set_option linter.all false
namespace Go.Ac
open Go
set_option maxRecDepth 4000
def restsG (s : List UInt8) : List (List (List UInt8)) → List (List (List UInt8)) → List (List (List UInt8)) × Bool
  | out, [] => (out, false)
  | out, p :: l => if p.head? = some s then (if p.length = 1 then ([], true) else restsG s (out ++ [p.tail]) l) else restsG s out l
def restsV (ps : List (List (List UInt8))) (s : List UInt8) : List (List (List UInt8)) × Bool := restsG s [] ps
theorem restsG_out (s : List UInt8) : ∀ (l out : List (List (List UInt8))), [s] ∉ l → restsG s out l = (out ++ (l.filter (fun p => p.head? == some s)).map List.tail, false)
  | [], out, _ => by simp [restsG]
  | p :: l, out, h => by
    have hl : [s] ∉ l := fun e => h (by simp [e])
    have hp : p ≠ [s] := fun e => h (by simp [e])
    rw [restsG]
    by_cases e : p.head? = some s
    · have hn : ¬ p.length = 1 := fun e1 => hp (by
        cases p with
        | nil => cases e
        | cons t q => cases q with
          | nil => simp at e; rw [e]
          | cons _ _ => simp at e1)
      rw [if_pos e, if_neg hn, restsG_out s l _ hl]
      simp [e]
    · rw [if_neg e, restsG_out s l _ hl]
      simp [e]
theorem restsG_end (s : List UInt8) : ∀ (l out : List (List (List UInt8))), [s] ∈ l → restsG s out l = ([], true)
  | [], out, h => by cases h
  | p :: l, out, h => by
    rw [restsG]
    by_cases hp : p = [s]
    · subst hp; simp
    · have hl : [s] ∈ l := (List.mem_cons.1 h).resolve_left (Ne.symm hp)
      by_cases e : p.head? = some s
      · have hn : ¬ p.length = 1 := fun e1 => hp (by
          cases p with
          | nil => cases e
          | cons t q => cases q with
            | nil => simp at e; rw [e]
            | cons _ _ => simp at e1)
        rw [if_pos e, if_neg hn]; exact restsG_end s l _ hl
      · rw [if_neg e]; exact restsG_end s l _ hl
theorem rests_whole {ps : List (List (List UInt8))} {s : List UInt8} : (restsV ps s).2 = true ↔ [s] ∈ ps := by
  unfold restsV
  by_cases h : [s] ∈ ps
  · rw [restsG_end s ps [] h]; simp [h]
  · rw [restsG_out s ps [] h]; simp [h]
theorem rests_mem {ps : List (List (List UInt8))} {s : List UInt8} {q : List (List UInt8)} (h : s :: q ∈ ps) (hw : ¬ (restsV ps s).2 = true) : q ∈ (restsV ps s).1 := by
  have hn : [s] ∉ ps := fun e => hw (rests_whole.2 e)
  unfold restsV
  rw [restsG_out s ps [] hn]
  simp only [List.nil_append, List.mem_map, List.mem_filter]
  exact ⟨s :: q, ⟨h, by simp⟩, rfl⟩
def deepB (v : JV) : Bool := decide (v.kind = 6) || decide (v.kind = 5)
mutual
def thrV (b : Bool) : List (List (List UInt8)) → JV → JV
  | ps, .mk h l => if h.kind = 5 then .mk ⟨5, 0, [], []⟩ (thrL b ps l) else if h.kind = 6 then .mk ⟨6, 0, [], (thrM b ps h.names l).1⟩ (thrM b ps h.names l).2 else .mk h l
def thrL (b : Bool) : List (List (List UInt8)) → List JV → List JV
  | _, [] => []
  | ps, x :: l => if deepB x = true ∨ b = false then thrV b ps x :: thrL b ps l else thrL b ps l
def thrM (b : Bool) : List (List (List UInt8)) → List (List UInt8) → List JV → List (List UInt8) × List JV
  | _, _, [] => ([], [])
  | _, [], _ :: _ => ([], [])
  | ps, s :: ns, x :: l =>
    if (b = true ∧ (restsV ps s).2 = true) ∨ (b = false ∧ (restsV ps s).2 = false ∧ (restsV ps s).1 = []) then (s :: (thrM b ps ns l).1, x :: (thrM b ps ns l).2)
    else if (b = true ∧ ((restsV ps s).1 = [] ∨ deepB x = false)) ∨ (b = false ∧ (restsV ps s).2 = true) then thrM b ps ns l
    else (s :: (thrM b ps ns l).1, thrV b (restsV ps s).1 x :: (thrM b ps ns l).2)
end
theorem thr_kind (b : Bool) (ps : List (List (List UInt8))) (v : JV) : (thrV b ps v).kind = v.kind := by
  cases v with
  | mk h l =>
    rw [thrV]
    split
    · rename_i e; exact e.symm
    · split
      · rename_i e; exact e.symm
      · rfl
theorem thr_deep (b : Bool) (ps : List (List (List UInt8))) (v : JV) : deepB (thrV b ps v) = deepB v := by unfold deepB; rw [thr_kind]
mutual
theorem thr_twice (b : Bool) : ∀ (ps : List (List (List UInt8))) (v : JV), thrV b ps (thrV b ps v) = thrV b ps v
  | ps, .mk h l => by
    by_cases h5 : h.kind = 5
    · rw [show thrV b ps (.mk h l) = .mk ⟨5, 0, [], []⟩ (thrL b ps l) by rw [thrV, if_pos h5], thrV, if_pos rfl, thr_twiceL b ps l]
    · by_cases h6 : h.kind = 6
      · rw [show thrV b ps (.mk h l) = .mk ⟨6, 0, [], (thrM b ps h.names l).1⟩ (thrM b ps h.names l).2 by rw [thrV, if_neg h5, if_pos h6], thrV, if_neg (by simp), if_pos rfl]
        have := thr_twiceM b ps h.names l
        simp only [this]
      · have e : thrV b ps (.mk h l) = .mk h l := by rw [thrV, if_neg h5, if_neg h6]
        rw [e, e]
theorem thr_twiceL (b : Bool) : ∀ (ps : List (List (List UInt8))) (l : List JV), thrL b ps (thrL b ps l) = thrL b ps l
  | ps, [] => by rw [thrL, thrL]
  | ps, x :: l => by
    rw [thrL]
    split
    · rename_i hd
      rw [thrL, if_pos (by rw [thr_deep]; exact hd), thr_twice b ps x, thr_twiceL b ps l]
    · exact thr_twiceL b ps l
theorem thr_twiceM (b : Bool) : ∀ (ps : List (List (List UInt8))) (ns : List (List UInt8)) (l : List JV), thrM b ps (thrM b ps ns l).1 (thrM b ps ns l).2 = thrM b ps ns l
  | ps, ns, [] => by cases ns <;> simp only [thrM]
  | ps, [], x :: l => by simp only [thrM]
  | ps, s :: ns, x :: l => by
    have ih := thr_twiceM b ps ns l
    have hx := thr_twice b (restsV ps s).1 x
    have hd := thr_deep b (restsV ps s).1 x
    rw [thrM]
    split
    · rename_i h1
      simp only
      rw [thrM, if_pos h1, ih]
    · rename_i h1
      split
      · exact ih
      · rename_i h2
        simp only
        rw [thrM, if_neg h1, if_neg (by rw [hd]; exact h2), ih, hx]
end
def look : List (List UInt8) → List JV → List UInt8 → Option JV
  | s :: ns, x :: l, t => if s = t then some x else look ns l t
  | _, _, _ => none
theorem look_place (t : List UInt8) : ∀ (ns : List (List UInt8)) (l : List JV) (n i : Nat), n = (if l.length < ns.length then l.length else ns.length) →
    (placeL t ns n i < 0 ∧ look ns l t = none) ∨ ∃ k x, placeL t ns n i = ((i + k : Nat) : Int) ∧ l[k]? = some x ∧ look ns l t = some x
  | [], l, n, i, h => by
    obtain rfl : n = 0 := by rw [h]; split <;> simp_all
    exact .inl ⟨by simp [placeL], by cases l <;> rfl⟩
  | s :: ns, [], n, i, h => by
    obtain rfl : n = 0 := by rw [h]; simp
    exact .inl ⟨by simp [placeL], rfl⟩
  | s :: ns, x :: l, n, i, h => by
    obtain ⟨m, rfl⟩ : ∃ m, n = m + 1 := ⟨(if l.length < ns.length then l.length else ns.length), by rw [h]; simp only [List.length_cons]; split <;> split <;> omega⟩
    have hm : m = (if l.length < ns.length then l.length else ns.length) := by simp only [List.length_cons] at h; split at h <;> split <;> omega
    rw [placeL, look]
    by_cases e : s = t
    · rw [if_pos e, if_pos e]
      exact .inr ⟨0, x, by simp, rfl, rfl⟩
    · rw [if_neg e, if_neg e]
      rcases look_place t ns l m (i + 1) hm with ⟨h1, h2⟩ | ⟨k, y, h1, h2, h3⟩
      · exact .inl ⟨h1, h2⟩
      · exact .inr ⟨k + 1, y, by rw [h1]; congr 1; omega, by simpa using h2, h3⟩
theorem get_look {v : JV} (hk : v.kind = 6) (s : List UInt8) (q : List (List UInt8)) : getV v (s :: q) = (look v.names v.items s).bind (fun x => getV x q) := by
  have h := look_place s v.names v.items v.mem 0 rfl
  have e : v.child s = placeL s v.names v.mem 0 := by rw [child_obj hk]; rfl
  rcases h with ⟨h1, h2⟩ | ⟨k, x, h1, h2, h3⟩
  · rw [getV_none (by rw [e]; exact h1), h2]; rfl
  · rw [getV_step (x := x) (by rw [e, h1]; omega) (by rw [e, h1]; simpa using h2), h3]; rfl
def memV (b : Bool) (r : List (List (List UInt8)) × Bool) (x : JV) : Option JV :=
  if (b = true ∧ r.2 = true) ∨ (b = false ∧ r.2 = false ∧ r.1 = []) then some x
  else if (b = true ∧ (r.1 = [] ∨ deepB x = false)) ∨ (b = false ∧ r.2 = true) then none else some (thrV b r.1 x)
theorem look_none {t : List UInt8} : ∀ {ns : List (List UInt8)} {l : List JV}, t ∉ ns → look ns l t = none
  | [], l, _ => by cases l <;> rfl
  | _ :: _, [], _ => rfl
  | s :: ns, x :: l, h => by
    rw [look, if_neg (fun e => h (by simp [e]))]
    exact look_none fun e => h (by simp [e])
theorem look_thr (b : Bool) (ps : List (List (List UInt8))) (t : List UInt8) : ∀ (ns : List (List UInt8)) (l : List JV), ns.Nodup → look (thrM b ps ns l).1 (thrM b ps ns l).2 t = (look ns l t).bind (memV b (restsV ps t))
  | ns, [], _ => by cases ns <;> simp [thrM, look]
  | [], x :: l, _ => by simp [thrM, look]
  | s :: ns, x :: l, hn => by
    rw [List.nodup_cons] at hn
    have ih := look_thr b ps t ns l hn.2
    rw [thrM, look]
    by_cases e : s = t
    · subst e
      have hl : look ns l s = none := look_none hn.1
      rw [if_pos rfl, Option.bind_some, memV]
      split
      · rw [look, if_pos rfl]
      · split
        · rw [ih, hl]; rfl
        · rw [look, if_pos rfl]
    · rw [if_neg e]
      split
      · rw [look, if_neg e, ih]
      · split
        · exact ih
        · rw [look, if_neg e, ih]
mutual
def plainD : JV → Prop
  | .mk h l => h.kind ≠ 5 ∧ (h.kind = 6 → h.names.Nodup) ∧ plainDs l
def plainDs : List JV → Prop
  | [] => True
  | x :: l => plainD x ∧ plainDs l
end
theorem plainDs_mem : ∀ {l : List JV}, plainDs l → ∀ x ∈ l, plainD x
  | [], _, x, h => by cases h
  | y :: l, h, x, hx => by
    rw [plainDs] at h
    rcases List.mem_cons.1 hx with rfl | hx
    · exact h.1
    · exact plainDs_mem h.2 x hx
theorem look_mem {t : List UInt8} {x : JV} : ∀ {ns : List (List UInt8)} {l : List JV}, look ns l t = some x → x ∈ l
  | [], l, h => by cases l <;> cases h
  | _ :: _, [], h => by cases h
  | s :: ns, y :: l, h => by
    rw [look] at h
    split at h
    · cases h; simp
    · exact List.mem_cons_of_mem _ (look_mem h)
theorem get_leaf {v : JV} (h5 : v.kind ≠ 5) (h6 : v.kind ≠ 6) (s : List UInt8) (q : List (List UInt8)) : getV v (s :: q) = none :=
  getV_none (by rw [child_none h6 (fun e => h5 e.1)]; omega)
theorem thr_obj {b : Bool} {ps : List (List (List UInt8))} {h : JH} {l : List JV} (hk : h.kind = 6) : thrV b ps (.mk h l) = .mk ⟨6, 0, [], (thrM b ps h.names l).1⟩ (thrM b ps h.names l).2 := by
  rw [thrV, if_neg (by omega), if_pos hk]
theorem thr_leaf {b : Bool} {ps : List (List (List UInt8))} {v : JV} (h5 : v.kind ≠ 5) (h6 : v.kind ≠ 6) : thrV b ps v = v := by
  cases v with
  | mk h l => rw [thrV, if_neg (show ¬ h.kind = 5 from h5), if_neg (show ¬ h.kind = 6 from h6)]
theorem get_thr {b : Bool} {ps : List (List (List UInt8))} {h : JH} {l : List JV} (hk : h.kind = 6) (hn : h.names.Nodup) (s : List UInt8) (q : List (List UInt8)) :
    getV (thrV b ps (.mk h l)) (s :: q) = ((look h.names l s).bind (memV b (restsV ps s))).bind (fun x => getV x q) := by
  rw [thr_obj hk, get_look rfl]
  simp only [JV.names, JV.hd, JV.items]
  rw [look_thr b ps s h.names l hn]
theorem get_in : ∀ (p : List (List UInt8)) (ps : List (List (List UInt8))) (v : JV), plainD v → p ∈ ps → p ≠ [] → getV (thrV true ps v) p = getV v p
  | [], _, _, _, _, h => absurd rfl h
  | s :: q, ps, .mk h l, hd, hp, _ => by
    rw [plainD] at hd
    obtain ⟨h5, hn, hl⟩ := hd
    by_cases h6 : h.kind = 6
    · rw [get_thr h6 (hn h6), get_look (v := .mk h l) h6]
      simp only [JV.names, JV.hd, JV.items]
      cases hx : look h.names l s with
      | none => rfl
      | some x =>
        rw [Option.bind_some, Option.bind_some, memV]
        have hdx := plainDs_mem hl x (look_mem hx)
        by_cases hw : (restsV ps s).2 = true
        · rw [if_pos (.inl ⟨rfl, hw⟩)]; rfl
        · have hq := rests_mem hp hw
          have hq0 : q ≠ [] := fun e => hw (rests_whole.2 (by rw [e] at hp; exact hp))
          rw [if_neg (by rintro (⟨_, e⟩ | ⟨e, _⟩); exact hw e; cases e)]
          by_cases hdp : deepB x = false
          · rw [if_pos (.inl ⟨rfl, .inr hdp⟩)]
            have : x.kind ≠ 5 ∧ x.kind ≠ 6 := by simp only [deepB, Bool.or_eq_false_iff, decide_eq_false_iff_not] at hdp; exact ⟨hdp.2, hdp.1⟩
            obtain ⟨t, r, rfl⟩ : ∃ t r, q = t :: r := by cases q with | nil => exact absurd rfl hq0 | cons t r => exact ⟨t, r, rfl⟩
            rw [get_leaf this.1 this.2]; rfl
          · rw [if_neg (by
              rintro (⟨_, e | e⟩ | ⟨e, _⟩)
              · rw [e] at hq; cases hq
              · exact hdp e
              · cases e), Option.bind_some]
            exact get_in q _ x hdx hq hq0
    · rw [thr_leaf (v := .mk h l) h5 h6]
theorem get_out : ∀ (p : List (List UInt8)) (ps : List (List (List UInt8))) (v : JV), plainD v → p ∈ ps → p ≠ [] → getV (thrV false ps v) p = none
  | [], _, _, _, _, h => absurd rfl h
  | s :: q, ps, .mk h l, hd, hp, _ => by
    rw [plainD] at hd
    obtain ⟨h5, hn, hl⟩ := hd
    by_cases h6 : h.kind = 6
    · rw [get_thr h6 (hn h6)]
      cases hx : look h.names l s with
      | none => rfl
      | some x =>
        rw [Option.bind_some, memV]
        have hdx := plainDs_mem hl x (look_mem hx)
        by_cases hw : (restsV ps s).2 = true
        · rw [if_neg (by rintro (⟨e, _⟩ | ⟨_, e, _⟩); cases e; rw [hw] at e; cases e), if_pos (.inr ⟨rfl, hw⟩)]; rfl
        · have hq := rests_mem hp hw
          have hq0 : q ≠ [] := fun e => hw (rests_whole.2 (by rw [e] at hp; exact hp))
          rw [if_neg (by
            rintro (⟨e, _⟩ | ⟨_, _, e⟩)
            · cases e
            · rw [e] at hq; cases hq), if_neg (by
            rintro (⟨e, _⟩ | ⟨_, e⟩)
            · cases e
            · exact hw e), Option.bind_some]
          exact get_out q _ x hdx hq hq0
    · rw [thr_leaf (v := .mk h l) h5 h6]
      exact get_leaf (v := .mk h l) h5 h6 s q
mutual
def leavesV : JV → Nat
  | .mk h l => if h.kind ≠ 6 then 1 else leavesM h.names l
def leavesM : List (List UInt8) → List JV → Nat
  | _, [] => 0
  | [], _ :: _ => 0
  | _ :: ns, x :: l => leavesV x + leavesM ns l
end
mutual
theorem leaves_sum : ∀ (ps : List (List (List UInt8))) (v : JV), plainD v → v.kind = 6 → leavesV (thrV true ps v) + leavesV (thrV false ps v) = leavesV v
  | ps, .mk h l, hd, hk => by
    rw [plainD] at hd
    have hk' : h.kind = 6 := hk
    rw [thr_obj hk', thr_obj hk', leavesV, leavesV, leavesV, if_neg (by simp), if_neg (by simp), if_neg (by simp [hk'])]
    exact leaves_sumM ps h.names l hd.2.2
theorem leaves_sumM : ∀ (ps : List (List (List UInt8))) (ns : List (List UInt8)) (l : List JV), plainDs l → leavesM (thrM true ps ns l).1 (thrM true ps ns l).2 + leavesM (thrM false ps ns l).1 (thrM false ps ns l).2 = leavesM ns l
  | ps, ns, [], _ => by cases ns <;> simp [thrM, leavesM]
  | ps, [], x :: l, _ => by simp [thrM, leavesM]
  | ps, s :: ns, x :: l, hd => by
    rw [plainDs] at hd
    have ih := leaves_sumM ps ns l hd.2
    have h5 : x.kind ≠ 5 := by cases x; have := hd.1; rw [plainD] at this; exact this.1
    rw [thrM, thrM, leavesM]
    cases hw : (restsV ps s).2 with
    | true =>
      rw [if_pos (.inl ⟨rfl, rfl⟩), if_neg (by rintro (⟨e, _⟩ | ⟨_, e, _⟩) <;> cases e), if_pos (.inr ⟨rfl, rfl⟩)]
      simp only [leavesM]
      omega
    | false =>
      by_cases hr : (restsV ps s).1 = []
      · rw [if_neg (by rintro (⟨_, e⟩ | ⟨e, _⟩) <;> cases e), if_pos (.inl ⟨rfl, .inl hr⟩), if_pos (.inr ⟨rfl, rfl, hr⟩)]
        simp only [leavesM]
        omega
      · rw [if_neg (c := (true = true ∧ false = true) ∨ _) (by rintro (⟨_, e⟩ | ⟨e, _⟩) <;> cases e)]
        rw [if_neg (c := (false = true ∧ false = true) ∨ _) (by rintro (⟨e, _⟩ | ⟨_, _, e⟩); cases e; exact hr e), if_neg (c := (false = true ∧ _) ∨ _) (by rintro (⟨e, _⟩ | ⟨_, e⟩) <;> cases e)]
        by_cases h6 : x.kind = 6
        · have hdp : deepB x = true := by simp [deepB, h6]
          rw [if_neg (by
            rintro (⟨_, e | e⟩ | ⟨e, _⟩)
            · exact hr e
            · rw [hdp] at e; cases e
            · cases e)]
          have ihx := leaves_sum (restsV ps s).1 x hd.1 h6
          simp only [leavesM]
          omega
        · have hdp : deepB x = false := by simp [deepB, h6, h5]
          rw [if_pos (.inl ⟨rfl, .inr hdp⟩), thr_leaf h5 h6]
          simp only [leavesM]
          omega
end
end Go.Ac

