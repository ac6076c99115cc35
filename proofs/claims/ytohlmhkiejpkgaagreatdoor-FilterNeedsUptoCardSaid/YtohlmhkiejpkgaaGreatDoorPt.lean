/- What is proved: contracts of functions of this translation, walked; their plain meaning. No condition beyond those that each theorem names. -/
import Derived.Test.YtohlmhkiejpkgaaGreatDoorPl2
import Derived.Test.YtohlmhkiejpkgaaGreatDoorFb16
set_option linter.all false
namespace Go.Ac
open Go
def pathsF : Nat → JV → List (List UInt8)
  | 0, _ => []
  | n + 1, q => q.mems.flatMap fun p => (if dollarB p.1 then [] else [p.1]) ++ (if joinsB p.1 then p.2.items.flatMap (pathsF n) else [])
def pathG (n : Nat) (p : List UInt8 × JV) : List (List UInt8) := (if dollarB p.1 then [] else [p.1]) ++ (if joinsB p.1 then p.2.items.flatMap (pathsF n) else [])
theorem pathsF_eq (n : Nat) (q : JV) : pathsF (n + 1) q = q.mems.flatMap (pathG n) := by rw [pathsF]; rfl
theorem flat_cnt {α : Type} (f : JV → List α) (hf : ∀ x, (f x).length ≤ cntV x) : ∀ l : List JV, (l.flatMap f).length ≤ cntVs l
  | [] => by simp
  | x :: l => by have := hf x; have := flat_cnt f hf l; simp only [List.flatMap_cons, List.length_append, cntVs]; omega
theorem zip_cnt {α : Type} (f : List UInt8 × JV → List α) (hf : ∀ p, (f p).length ≤ cntV p.2) : ∀ (ns : List (List UInt8)) (l : List JV), ((ns.zip l).flatMap f).length ≤ cntVs l
  | [], l => by simp
  | _ :: _, [] => by simp
  | s :: ns, x :: l => by have := hf (s, x); have := zip_cnt f hf ns l; simp only [List.zip_cons_cons, List.flatMap_cons, List.length_append, cntVs]; simp only at *; omega
theorem flat_take {α β : Type} (f : α → List β) (l : List α) (i : Nat) : ((l.take i).flatMap f).length ≤ (l.flatMap f).length := by
  have e : l.flatMap f = (l.take i).flatMap f ++ (l.drop i).flatMap f := by rw [← List.flatMap_append, List.take_append_drop]
  rw [e, List.length_append]; omega
theorem paths_len : ∀ (n : Nat) (q : JV), (pathsF n q).length ≤ cntV q
  | 0, q => by simp [pathsF]
  | n + 1, q => by
    rw [pathsF_eq, cntV_eq]
    have := zip_cnt (pathG n) (fun p => by
      have h1 := flat_cnt (pathsF n) (paths_len n) p.2.items
      rw [cntV_eq]
      unfold pathG
      rw [List.length_append]
      split <;> split <;> simp only [List.length_nil, List.length_cons] <;> omega) q.names q.items
    unfold JV.mems; omega
theorem mems_get {q : JV} {i : Nat} {s : List UInt8} {v : JV} (h1 : q.names[i]? = some s) (h2 : q.items[i]? = some v) : q.mems[i]? = some (s, v) := by
  unfold JV.mems; exact List.getElem?_zip_eq_some.2 ⟨h1, h2⟩
theorem mems_item {q : JV} {p : List UInt8 × JV} (h : p ∈ q.mems) : p.2 ∈ q.items := by
  unfold JV.mems at h
  obtain ⟨s, v⟩ := p
  exact List.of_mem_zip h |>.2
theorem chk_mem {n : Nat} {q : JV} {d c c' : Int} (h : chkQ (n + 1) q d c = .ok c') {p : List UInt8 × JV} (hp : p ∈ q.mems) :
    (joinsB p.1 = true ∧ ∀ y ∈ p.2.items, ∃ u u', chkQ n y (d + 1) u = .ok u') ∨ (joinsB p.1 = false ∧ dollarB p.1 = false ∧ parseE p.1 = 0) := by
  rw [chkQ] at h
  split at h
  · cases h
  split at h
  · cases h
  obtain ⟨u, u', hu⟩ := foldX_all h p hp
  cases hj : joinsB p.1 with
  | true =>
    rw [hj] at hu
    simp only [if_true] at hu
    split at hu
    · cases hu
    · exact .inl ⟨rfl, fun y hy => foldX_all hu y hy⟩
  | false =>
    rw [hj] at hu
    simp only [Bool.false_eq_true, if_false] at hu
    cases hd : dollarB p.1 with
    | true => rw [hd] at hu; simp at hu
    | false =>
      rw [hd] at hu
      simp only [Bool.false_eq_true, if_false] at hu
      by_cases hE : parseE p.1 = 0
      · exact .inr ⟨rfl, rfl, hE⟩
      · rw [if_pos hE] at hu; cases hu
theorem paths_ok : ∀ (n : Nat) (q : JV) (d c c' : Int), chkQ n q d c = .ok c' → ∀ p ∈ pathsF n q, parseE p = 0
  | 0, q, d, c, c', h, p, hp => by simp [pathsF] at hp
  | n + 1, q, d, c, c', h, p, hp => by
    rw [pathsF_eq] at hp
    obtain ⟨m, hm, hp⟩ := List.mem_flatMap.1 hp
    unfold pathG at hp
    rcases chk_mem h hm with ⟨hj, hy⟩ | ⟨hj, hd, hE⟩
    · rw [joins_dollar hj, hj] at hp
      simp only [if_true, List.nil_append] at hp
      obtain ⟨y, hy1, hy2⟩ := List.mem_flatMap.1 hp
      obtain ⟨u, u', hu⟩ := hy y hy1
      exact paths_ok n y _ _ _ hu p hy2
    · rw [hd, hj] at hp
      simp only [Bool.false_eq_true, if_false, List.append_nil, List.mem_cons, List.not_mem_nil, or_false] at hp
      rw [hp]; exact hE
theorem all_cong {α : Type} {f g : α → Bool} : ∀ {l : List α}, (∀ a ∈ l, f a = g a) → l.all f = l.all g
  | [], _ => rfl
  | a :: l, h => by simp only [List.all_cons, h a (by simp), all_cong (l := l) fun b hb => h b (by simp [hb])]
theorem any_cong {α : Type} {f g : α → Bool} : ∀ {l : List α}, (∀ a ∈ l, f a = g a) → l.any f = l.any g
  | [], _ => rfl
  | a :: l, h => by simp only [List.any_cons, h a (by simp), any_cong (l := l) fun b hb => h b (by simp [hb])]
theorem match_cong (a b : JV) : ∀ (n : Nat) (q : JV) (d c c' : Int), chkQ n q d c = .ok c' → (∀ p ∈ pathsF n q, allV a (parseP p) = allV b (parseP p)) → matchF n q a = matchF n q b
  | 0, q, d, c, c', h, hp => by rw [matchF, matchF]
  | n + 1, q, d, c, c', h, hp => by
    rw [matchF, matchF]
    refine all_cong fun p hm => ?_
    have hsub : ∀ x ∈ pathG n p, allV a (parseP x) = allV b (parseP x) := fun x hx => hp x (by rw [pathsF_eq]; exact List.mem_flatMap.2 ⟨p, hm, hx⟩)
    unfold pathG at hsub
    rcases chk_mem h hm with ⟨hj, hy⟩ | ⟨hj, hd, hE⟩
    · have hc : ∀ y ∈ p.2.items, matchF n y a = matchF n y b := fun y hy1 => by
        obtain ⟨u, u', hu⟩ := hy y hy1
        refine match_cong a b n y _ _ _ hu fun x hx => hsub x ?_
        rw [hj]
        simp only [if_true]
        exact List.mem_append_right _ (List.mem_flatMap.2 ⟨y, hy1, hx⟩)
      rw [hj, all_cong hc, any_cong hc]; rfl
    · have e := hsub p.1 (by rw [hd]; simp)
      rw [hj, e]; rfl
end Go.Ac

