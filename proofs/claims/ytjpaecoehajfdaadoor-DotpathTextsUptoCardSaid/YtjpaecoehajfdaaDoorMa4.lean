/- What is proved: contracts, joins, how arguments read. No condition beyond those that each theorem names. -/
import Derived.Test.YtjpaecoehajfdaaDoorMa3
import Derived.Scope
import Derived.Below
import Derived.ProofKit
set_option linter.all false
/- What is proved: a region, reckoned. No condition. -/
namespace Go.Ab
open Go

def addF (draw : Bool) (f : Foot) (fs : List Foot) : List Foot := bif draw then f :: fs else fs

abbrev Kt := AS → List Foot → (AS → Prop) → Prop

/-- A call: by one of the contracts (aCall_flat, aCall_pure, aCall_arr). -/
def aCall (P : Program) (W : World) (draw : Bool) (k : Kt) (σ : AS) (fs : List Foot) (F : AS → Prop) (ex : List Nat) (f : FuncId) (As : List AV) (rt : List Nat) (dst : Option Nat) : Prop :=
  ∃ u ft, (∀ o, OutOK P W o σ (.call f As rt dst) → OutOK P W o σ (.eff u ft)) ∧ k (σ.up u) (addF draw ⟨ex ++ ft.rt, ft.wt, ft.rh, ft.wh⟩ fs) F

def aK (P : Program) (W : World) (draw : Bool) (k : Kt) (σ : AS) (fs : List Foot) (F : AS → Prop) (ex : List Nat) : Out → Prop
  | .eff u f => k (σ.up u) (addF draw ⟨ex ++ f.rt, f.wt, f.rh, f.wh⟩ fs) F
  | .req p o => p ∧ aK P W draw k σ fs F ex o
  | .ite b x y => (b = true → aK P W draw k σ fs F ex x) ∧ (b = false → aK P W draw k σ fs F ex y)
  | .call f As rt dst => aCall P W draw k σ fs F ex f As rt dst
  | .fail => False

def aB (P : Program) (W : World) (draw : Bool) (k : Kt) (σ : AS) (fs : List Foot) (F : AS → Prop) (d : Nat) (want : Bool) (dst : Option Nat) (op : Op) : AV → Prop
  | .val (.bool b) => (b = want → aK P W draw k σ fs F [d] (out P σ dst op)) ∧ (b = !want → k (σ.up ⟨dst, .val undef, []⟩) (addF draw ⟨[d], dN dst, [], []⟩ fs) F)
  | .val (.tuple ⟨[]⟩) => k (σ.up ⟨dst, .val undef, []⟩) (addF draw ⟨[d], dN dst, [], []⟩ fs) F
  | _ => False

def aG (P : Program) (W : World) (draw : Bool) (k : Kt) (σ : AS) (fs : List Foot) (F : AS → Prop) (want : Bool) (dst : Option Nat) (op : Op) : Option Nat → Prop
  | some d => aB P W draw k σ fs F d want dst op (tg σ.t d)
  | none => False

def dstOf (all : List Oper) (j : Nat) : Option Nat := (all[j]?).bind (·.dst)

def aO (P : Program) (W : World) (all : List Oper) (draw : Bool) (k : Kt) (σ : AS) (fs : List Foot) (F : AS → Prop) (dst : Option Nat) (op : Op) : Option (Nat × Bool) → Prop
  | none => aK P W draw k σ fs F [] (out P σ dst op)
  | some (j, want) => aG P W draw k σ fs F want dst op (dstOf all j)

def aops (P : Program) (W : World) (all : List Oper) (draw : Bool) : List Oper → Kt
  | [], σ, fs, F => (draw = true → ordF (ancs all []) fs.reverse 0 = true) ∧ F σ
  | o :: rest, σ, fs, F => aO P W all draw (aops P W all draw rest) σ fs F o.dst o.op o.guard

section
variable {P : Program} {W : World} {ops : Array Oper} {draw : Bool}

/-- What a continuation is good for. -/
def KOK (P : Program) (W : World) (ops : Array Oper) (draw : Bool) (i0 : Nat) (rest : List Oper) (k : Kt) : Prop :=
  ∀ (σ : AS) (fs : List Foot) (F : AS → Prop), k σ fs F → ∃ (effs : List Eff) (σ' : AS), effs.length = rest.length ∧ (∀ (i : Nat) (f : Eff), effs[i]? = some f → StepW P W ops (i0 + i) f) ∧ ReadsAll σ.den effs ∧ runs σ.den effs = σ'.den ∧
    (∀ (i : Nat) (f : Eff) (o : Oper), effs[i]? = some f → rest[i]? = some o → f.dst = o.dst) ∧ F σ' ∧ (draw = true → ordF (ancs ops.toList []) (fs.reverse ++ effs.map footOf) 0 = true)

theorem kok_cons {i0 : Nat} {o : Oper} {rest : List Oper} {k : Kt} (hk : KOK P W ops draw (i0 + 1) rest k) {σ : AS} {fs : List Foot} {F : AS → Prop} {u : Upd} {ft : Foot} {g : Eff}
    (hs : StepW P W ops i0 g) (hr : Reads σ.den g) (hf : footOf g = ft) (hu : (σ.up u).den = σ.den.upd g) (hd : g.dst = o.dst) (h : k (σ.up u) (addF draw ft fs) F) :
    ∃ (effs : List Eff) (σ' : AS), effs.length = (o :: rest).length ∧ (∀ (i : Nat) (f : Eff), effs[i]? = some f → StepW P W ops (i0 + i) f) ∧ ReadsAll σ.den effs ∧ runs σ.den effs = σ'.den ∧
      (∀ (i : Nat) (f : Eff) (o' : Oper), effs[i]? = some f → (o :: rest)[i]? = some o' → f.dst = o'.dst) ∧ F σ' ∧ (draw = true → ordF (ancs ops.toList []) (fs.reverse ++ effs.map footOf) 0 = true) := by
  obtain ⟨effs, σ', h1, h2, h3, h4, h5, h6, h7⟩ := hk _ _ _ h
  refine ⟨g :: effs, σ', by simp [h1], ?_, ⟨hr, by rw [← hu]; exact h3⟩, by simp only [runs]; rw [← hu]; exact h4, ?_, h6, fun hdr => ?_⟩
  · intro i f hi
    cases i with
    | zero => simp only [List.getElem?_cons_zero, Option.some.injEq] at hi; subst hi; exact hs
    | succ i => simp only [List.getElem?_cons_succ] at hi; have := h2 i f hi; rwa [show i0 + (i + 1) = i0 + 1 + i by omega]
  · intro i f o' hi ho
    cases i with
    | zero => simp only [List.getElem?_cons_zero, Option.some.injEq] at hi ho; subst hi ho; exact hd
    | succ i => simp only [List.getElem?_cons_succ] at hi ho; exact h5 i f o' hi ho
  · have := h7 hdr
    simp only [addF, hdr, cond_true, List.reverse_cons, List.append_assoc, List.singleton_append] at this
    rw [List.map_cons, hf]
    exact this

theorem aK_sound {i0 d : Nat} {o : Oper} {rest : List Oper} {k : Kt} (hk : KOK P W ops draw (i0 + 1) rest k) {σ : AS} {fs : List Foot} {F : AS → Prop} {ex : List Nat} (lift : Eff → Eff)
    (hl1 : ∀ f, LocalOKW P W o f → StepW P W ops i0 (lift f)) (hl2 : ∀ f, Reads σ.den f → Reads σ.den (lift f)) (hl3 : ∀ f, footOf (lift f) = ⟨ex ++ (footOf f).rt, (footOf f).wt, (footOf f).rh, (footOf f).wh⟩)
    (hl4 : ∀ f, σ.den.upd (lift f) = σ.den.upd f) (hl5 : ∀ f, (lift f).dst = f.dst) : ∀ {x : Out}, OutOK P W o σ x → aK P W draw k σ fs F ex x →
    ∃ (effs : List Eff) (σ' : AS), effs.length = (o :: rest).length ∧ (∀ (i : Nat) (f : Eff), effs[i]? = some f → StepW P W ops (i0 + i) f) ∧ ReadsAll σ.den effs ∧ runs σ.den effs = σ'.den ∧
      (∀ (i : Nat) (f : Eff) (o' : Oper), effs[i]? = some f → (o :: rest)[i]? = some o' → f.dst = o'.dst) ∧ F σ' ∧ (draw = true → ordF (ancs ops.toList []) (fs.reverse ++ effs.map footOf) 0 = true) := by
  have eff : ∀ u ft, OutOK P W o σ (.eff u ft) → k (σ.up u) (addF draw ⟨ex ++ ft.rt, ft.wt, ft.rh, ft.wh⟩ fs) F → ∃ (effs : List Eff) (σ' : AS), effs.length = (o :: rest).length ∧ (∀ (i : Nat) (f : Eff), effs[i]? = some f → StepW P W ops (i0 + i) f) ∧ ReadsAll σ.den effs ∧ runs σ.den effs = σ'.den ∧
      (∀ (i : Nat) (f : Eff) (o' : Oper), effs[i]? = some f → (o :: rest)[i]? = some o' → f.dst = o'.dst) ∧ F σ' ∧ (draw = true → ordF (ancs ops.toList []) (fs.reverse ++ effs.map footOf) 0 = true) := by
    rintro u ft ⟨g, q1, q2, q3, q4, q5⟩ h
    exact kok_cons hk (hl1 g q1) (hl2 g q2) (by rw [hl3, q3]) (by rw [hl4, q4]) (by rw [hl5, q5]) h
  intro x
  induction x with
  | eff u f => exact fun ho h => eff u f ho h
  | req p x ih => exact fun ho h => ih (ho h.1) h.2
  | ite b x y ih1 ih2 =>
    intro ho h
    cases b with
    | true => exact ih1 (ho.1 rfl) (h.1 rfl)
    | false => exact ih2 (ho.2 rfl) (h.2 rfl)
  | call f As rt dst =>
    rintro ho ⟨u, ft, h1, h2⟩
    exact eff u ft (h1 o ho) h2
  | fail => exact fun _ h => h.elim

theorem aops_kok : ∀ (rest : List Oper) (i0 : Nat), (∀ i, rest[i]? = ops[i0 + i]?) → KOK P W ops draw i0 rest (aops P W ops.toList draw rest)
  | [], i0, _ => by
    intro σ fs F h
    exact ⟨[], σ, rfl, by simp, trivial, rfl, by simp, h.2, fun hd => by simpa using h.1 hd⟩
  | o :: rest, i0, hr => by
    intro σ fs F h
    have hk := aops_kok rest (i0 + 1) (fun i => by have := hr (i + 1); rw [show i0 + 1 + i = i0 + (i + 1) by omega]; simpa using this)
    have hi : ops[i0]? = some o := by have := hr 0; simpa using this.symm
    simp only [aops] at h
    cases hg : o.guard with
    | none =>
      rw [hg] at h
      simp only [aO] at h
      exact aK_sound (d := 0) hk id (fun f hf => stepW_plain hi hg hf) (fun f hf => hf) (fun f => by simp) (fun f => rfl) (fun f => rfl) out_ok h
    | some jw =>
      obtain ⟨j, want⟩ := jw
      rw [hg] at h
      simp only [aO] at h
      cases hj : dstOf ops.toList j with
      | none => rw [hj] at h; exact h.elim
      | some d =>
        rw [hj] at h
        simp only [aG] at h
        have hj' : (ops[j]?).bind (·.dst) = some d := by simpa [dstOf] using hj
        unfold aB at h
        split at h
        · rename_i b hb
          by_cases hbw : b = want
          · subst hbw
            have h1 := h.1 rfl
            exact aK_sound (d := d) hk (fun f => { f with rt := (d, .val (.bool b)) :: f.rt }) (fun f hf => stepW_yes hi hg hj' hf) (fun f hf => ⟨fun p hp => by
              rcases List.mem_cons.1 hp with rfl | hp
              · exact hb
              · exact hf.1 p hp, hf.2⟩) (fun f => rfl) (fun f => rfl) (fun f => rfl) out_ok h1
          · have hbw' : b = !want := by cases b <;> cases want <;> simp_all
            have h2 := h.2 hbw'
            refine kok_cons hk (g := { rt := [(d, .val (.bool (!want)))], rh := [], dst := o.dst, v := .val undef, wh := [] }) (stepW_no hi hg hj') ⟨fun p hp => by simp at hp; subst hp; rw [← hbw']; exact hb, by simp⟩ ?_ (up_den _ _ _ rfl rfl rfl) rfl h2
            show Foot.mk _ _ _ _ = Foot.mk _ _ _ _
            rw [keys_wT]; rfl
        · rename_i hb
          refine kok_cons hk (g := { rt := [(d, .val undef)], rh := [], dst := o.dst, v := .val undef, wh := [] }) (stepW_un hi hg hj') ⟨fun p hp => by simp at hp; subst hp; exact hb, by simp⟩ ?_ (up_den _ _ _ rfl rfl rfl) rfl h
          show Foot.mk _ _ _ _ = Foot.mk _ _ _ _
          rw [keys_wT]; rfl
        · exact h.elim

def dstAll (N : Nat) (ops : List Oper) : Bool := ops.all fun o => match o.dst with | some d => decide (d < N) | none => true

/-- A REGION. -/
theorem run_reg {N : Nat} {k : List It} {Q : Exit → SS → Prop} {σ : AS} {id : Nat} (pr : AS → AS) (hpr : ∀ σ : AS, Sub σ.den (pr σ).den) (hd : dstAll N ops.toList = true) (hdr : draw = true → P.follows .mixedOrders = true ∧ edgesOk ops.toList 0 = true)
    (h : ∀ F : AS → Prop, (∀ σ' : AS, RUN P W N k Q (pr σ').den → F σ') → aops P W ops.toList draw ops.toList σ [] F) : RUN P W N (.code (.region id ops draw) :: k) Q σ.den := by
  obtain ⟨effs, σ', h1, h2, h3, h4, h5, h6, h7⟩ := aops_kok (P := P) (W := W) (draw := draw) ops.toList 0 (fun i => by simp) σ [] _ (h _ fun _ hx => hx)
  have hl : effs.length = ops.size := by simpa using h1
  have hdst : dstsOk N effs := by
    intro f hf d hfd
    obtain ⟨i, hi⟩ := List.getElem?_of_mem hf
    have hlt : i < ops.size := by have := (List.getElem?_eq_some_iff.1 hi).1; omega
    have ho : ops.toList[i]? = some ops[i] := by simp [hlt]
    have := h5 i f _ hi ho
    rw [hfd] at this
    have := List.all_eq_true.1 hd ops[i] (List.mem_of_getElem? ho)
    rename_i e
    rw [← e] at this
    simpa using this
  intro E g hN a w hr
  have hq : ∀ a' w', Rep E (runs σ.den effs) a' w' → ∃ σ'', Kof P E Q k .normal σ'' ∧ Rep E σ'' a' w' := fun a' w' hr' => by
    rw [h4] at hr'
    exact ⟨_, h6 E g hN, hpr σ' E a' w' hr'⟩
  have hs : StepsW P W ops effs := fun i f hi => by have := h2 i f hi; rwa [Nat.zero_add] at this
  cases draw with
  | false => exact region_seq g hl hs (by rw [hN]; exact hdst) h3 hr hq
  | true =>
    obtain ⟨q1, q2⟩ := hdr rfl
    refine region_any q1 g hl hs (by rw [hN]; exact hdst) h3 q2 ?_ hr hq
    rw [ordOk_foot]
    simpa using h7 rfl
end

/-! ### Calls -/

section
variable {P : Program} {W : World} {draw : Bool} {k : Kt} {σ : AS} {fs : List Foot} {F : AS → Prop} {ex rt : List Nat} {f : FuncId} {As args : List AV} {dst : Option Nat}

def namesIn (σ : AS) (gs : List (Nat × GE)) : Prop := ∀ p ∈ gs, hg σ.h p.1 = some p.2

theorem zip_self_ev (xs : List Operand) : ∀ p ∈ xs.zip (xs.map (evL σ)), evL σ p.1 = p.2 := by
  induction xs with
  | nil => simp
  | cons x xs ih => intro p hp; simp only [List.map_cons, List.zip_cons_cons, List.mem_cons] at hp; rcases hp with rfl | hp; rfl; exact ih p hp

theorem zip_fst (xs : List Operand) : (xs.zip (xs.map (evL σ))).map (·.1) = xs := by
  induction xs with
  | nil => rfl
  | cons x xs ih => simp only [List.map_cons, List.zip_cons_cons, ih]

theorem evs_eq (xs : List Operand) : xs.map (evA σ.den.t) = xs.map (evL σ) := List.map_congr_left fun x _ => evL_den σ x

theorem aCall_flat (gs : List (Nat × GE)) {r : AV} (hc : Pure P W f args r) (hf : callable P f = true) (hfz : Frzall gs) (hn : namesIn σ gs) (hle : LeL (clL gs As) args) (hcl : cloL args = true) (hfl : r.flt = true)
    (h : k (σ.up ⟨dst, r, []⟩) (addF draw ⟨ex ++ rt, dN dst, gs.map (·.1), []⟩ fs) F) : aCall P W draw k σ fs F ex f As rt dst := by
  refine ⟨⟨dst, r, []⟩, ⟨rt, dN dst, gs.map (·.1), []⟩, ?_, h⟩
  rintro o ⟨hd, xs, ts, ho, hAs, hrt⟩
  subst hd
  refine ⟨_, ok_callFlat ho hf (evs_eq _) hfz (by rw [hAs]; exact hle) hcl hfl hc, ⟨reads_rds (zip_self_ev _), fun p hp => ?_⟩, ?_, up_den _ _ _ rfl rfl rfl, rfl⟩
  · obtain ⟨q, hq, rfl⟩ := List.mem_map.1 hp; exact hn q hq
  · show Foot.mk _ _ _ _ = Foot.mk _ _ _ _
    rw [keys_rds, keys_wT, zip_fst, hrt]
    simp only [keys, frzR, List.map_map]; rfl

theorem aCall_pure (gs : List (Nat × GE)) {r : AV} (hc : Pure P W f args r) (hf : callable P f = true) (hfz : Frzall gs) (hon : once gs = true) (hn : namesIn σ gs) (hle : LeL (clL gs As) args) (hcl : cloL args = true)
    (h : k (σ.up ⟨dst, r, gs.map fun p => (p.1, frzGE p.2)⟩) (addF draw ⟨ex ++ rt, dN dst, gs.map (·.1), gs.map (·.1)⟩ fs) F) : aCall P W draw k σ fs F ex f As rt dst := by
  refine ⟨⟨dst, r, gs.map fun p => (p.1, frzGE p.2)⟩, ⟨rt, dN dst, gs.map (·.1), gs.map (·.1)⟩, ?_, h⟩
  rintro o ⟨hd, xs, ts, ho, hAs, hrt⟩
  subst hd
  refine ⟨_, ok_call ho hf (evs_eq _) hfz hon (by rw [hAs]; exact hle) hcl hc, ⟨reads_rds (zip_self_ev _), fun p hp => ?_⟩, ?_, up_den _ _ _ rfl rfl (by simp only [frzW, List.map_map]; rfl), rfl⟩
  · obtain ⟨q, hq, rfl⟩ := List.mem_map.1 hp; exact hn q hq
  · show Foot.mk _ _ _ _ = Foot.mk _ _ _ _
    rw [keys_rds, keys_wT, zip_fst, hrt]
    simp only [keys, frzR, frzW, List.map_map]; rfl

theorem aCall_arr (gs : List (Nat × GE)) {e : TypeId} {n d : Nat} {els : List AV} {res : Nat → AV} (hc : RetA P W f args e n els res) (hf : callable P f = true) (hfz : Frzall gs) (hon : once gs = true) (hn : namesIn σ gs) (hle : LeL (clL gs As) args) (hcl : cloL args = true)
    (hd0 : hg σ.h d = none) (hdl : lk gs d = none)
    (h : k (σ.up ⟨dst, res d, (gs.map fun p => (p.1, frzGE p.2)) ++ [(d, .arr e n els .own)]⟩) (addF draw ⟨ex ++ rt, dN dst, d :: gs.map (·.1), gs.map (·.1) ++ [d]⟩ fs) F) : aCall P W draw k σ fs F ex f As rt dst := by
  refine ⟨⟨dst, res d, (gs.map fun p => (p.1, frzGE p.2)) ++ [(d, .arr e n els .own)]⟩, ⟨rt, dN dst, d :: gs.map (·.1), gs.map (·.1) ++ [d]⟩, ?_, h⟩
  rintro o ⟨hd, xs, ts, ho, hAs, hrt⟩
  subst hd
  refine ⟨_, ok_callA (d := d) ho hf (evs_eq _) hfz hon (by rw [hAs]; exact hle) hcl hc hdl, ⟨reads_rds (zip_self_ev _), fun p hp => ?_⟩, ?_, up_den _ _ _ rfl rfl (by simp only [frzW, List.map_append, List.map_map]; rfl), rfl⟩
  · rcases List.mem_cons.1 hp with rfl | hp
    · exact hd0
    · obtain ⟨q, hq, rfl⟩ := List.mem_map.1 hp; exact hn q hq
  · show Foot.mk _ _ _ _ = Foot.mk _ _ _ _
    rw [keys_rds, keys_wT, zip_fst, hrt]
    simp only [keys, frzR, frzW, List.map_map, List.map_cons, List.map_append, List.map_nil]; rfl
end

end Go.Ab

/- What is proved: a state may be made smaller behind a region. No condition. -/
namespace Go.Ab
open Go

def memN (k : Nat) : List Nat → Bool
  | [] => false
  | x :: l => if k = x then true else memN k l

def keepT (ks : List Nat) : List (Nat × AV) → List (Nat × AV)
  | [] => []
  | (k, v) :: l => if memN k ks = true then (k, v) :: keepT ks l else keepT ks l

def keepH (ks : List Nat) : List (Nat × GE) → List (Nat × GE)
  | [] => []
  | (k, v) :: l => if memN k ks = true then (k, v) :: keepH ks l else keepH ks l

def nmsT : List (Nat × AV) → List Nat
  | [] => []
  | (_, v) :: l => nms v ++ nmsT l

def gesN : List (Nat × GE) → List Nat
  | [] => []
  | (_, g) :: l => geNms g ++ gesN l

def liveAll (h : List (Nat × GE)) : List Nat → Bool
  | [] => true
  | n :: l => if (hg h n).isSome = true then liveAll h l else false

def noSld : List (Nat × GE) → Bool
  | [] => true
  | (_, .arr _ _ _ .sld) :: _ => false
  | _ :: l => noSld l

def ownL : List (Nat × GE) → List (Nat × GE)
  | [] => []
  | (k, g) :: l => (k, ownGE g) :: ownL l

def renT (x y : Nat) : List (Nat × AV) → List (Nat × AV)
  | [] => []
  | (k, v) :: l => (k, ren x y v) :: renT x y l

def renH (x y : Nat) : List (Nat × GE) → List (Nat × GE)
  | [] => []
  | (k, g) :: l => if k = x then renH x y l else (k, renGE x y g) :: renH x y l

def renO (x y : Nat) (σ : AS) : Option GE → AS
  | some g => ⟨renT x y σ.t, hs (renH x y σ.h) y (renGE x y g)⟩
  | none => σ

def renB (x y : Nat) (σ : AS) : Option GE → AS
  | none => renO x y σ (hg σ.h x)
  | some _ => σ

def renAll : List (Nat × GE) → AS → AS
  | [], σ => σ
  | (k, _) :: l, σ => if 1000 ≤ k then renAll l (renB k (k - 1000) σ (hg σ.h (k - 1000))) else renAll l σ

def normA (σ : AS) : AS := if noSld σ.h = true then renAll σ.h ⟨σ.t, ownL σ.h⟩ else σ

def clsd (t : List (Nat × AV)) (h h0 : List (Nat × GE)) : AS := if liveAll h (nmsT t ++ gesN h) = true then normA ⟨t, h⟩ else ⟨t, h0⟩

def prune2 (t : List (Nat × AV)) (h : List (Nat × GE)) (L : List Nat) : AS := clsd t (keepH (L ++ gesN (keepH L h)) h) h

/-- The slots in ks are kept, and the names that are still used. -/
def prune (ks : List Nat) (σ : AS) : AS := prune2 (keepT ks σ.t) σ.h (nmsT (keepT ks σ.t) ++ gesN (keepH (nmsT (keepT ks σ.t)) σ.h))

theorem tg_keepT (ks : List Nat) : ∀ (l : List (Nat × AV)) (i : Nat), tg (keepT ks l) i = tg l i ∨ tg (keepT ks l) i = .top
  | [], i => .inl rfl
  | (k, v) :: l, i => by
    simp only [keepT]
    split
    · simp only [tg]; split
      · exact .inl rfl
      · exact tg_keepT ks l i
    · rename_i hm
      simp only [tg]; split
      · rename_i e; subst e
        have : ∀ l : List (Nat × AV), tg (keepT ks l) k = .top := by
          intro l
          induction l with
          | nil => rfl
          | cons p l ih =>
            obtain ⟨q, u⟩ := p
            simp only [keepT]
            split
            · rename_i hq
              simp only [tg]
              split
              · rename_i e; subst e; exact absurd hq hm
              · exact ih
            · exact ih
        exact .inr (this l)
      · exact tg_keepT ks l i

theorem hg_keepH (ks : List Nat) : ∀ (l : List (Nat × GE)) (i : Nat), hg (keepH ks l) i = hg l i ∨ hg (keepH ks l) i = none
  | [], i => .inl rfl
  | (k, v) :: l, i => by
    simp only [keepH]
    split
    · simp only [hg]; split
      · exact .inl rfl
      · exact hg_keepH ks l i
    · rename_i hm
      simp only [hg]; split
      · rename_i e; subst e
        have : ∀ l : List (Nat × GE), hg (keepH ks l) k = none := by
          intro l
          induction l with
          | nil => rfl
          | cons p l ih =>
            obtain ⟨q, u⟩ := p
            simp only [keepH]
            split
            · rename_i hq
              simp only [hg]
              split
              · rename_i e; subst e; exact absurd hq hm
              · exact ih
            · exact ih
        exact .inr (this l)
      · exact hg_keepH ks l i

theorem liveAll_spec {h : List (Nat × GE)} : ∀ {l : List Nat}, liveAll h l = true → ∀ n ∈ l, (hg h n).isSome = true
  | [], _, n, hn => by cases hn
  | x :: l, hl, n, hn => by
    simp only [liveAll] at hl
    split at hl
    · rename_i hx
      rcases List.mem_cons.1 hn with rfl | hn
      · exact hx
      · exact liveAll_spec hl n hn
    · cases hl

theorem nms_tg : ∀ (l : List (Nat × AV)) (i n : Nat), n ∈ nms (tg l i) → n ∈ nmsT l
  | [], i, n, h => by simp [tg, nms] at h
  | (k, v) :: l, i, n, h => by
    simp only [tg] at h
    simp only [nmsT, List.mem_append]
    split at h
    · exact .inl h
    · exact .inr (nms_tg l i n h)

theorem nms_hg : ∀ (l : List (Nat × GE)) (i : Nat) (g : GE) (n : Nat), hg l i = some g → n ∈ geNms g → n ∈ gesN l
  | [], i, g, n, h, _ => by cases h
  | (k, u) :: l, i, g, n, h, hn => by
    simp only [hg] at h
    simp only [gesN, List.mem_append]
    split at h
    · cases h; exact .inl hn
    · exact .inr (nms_hg l i g n h hn)

theorem hg_ownL : ∀ (l : List (Nat × GE)) (i : Nat), hg (ownL l) i = (hg l i).map ownGE
  | [], _ => rfl
  | (k, g) :: l, i => by
    simp only [ownL, hg]
    split
    · rfl
    · exact hg_ownL l i

theorem noSld_spec : ∀ (l : List (Nat × GE)), noSld l = true → ∀ i g, hg l i = some g → ∀ e n els, g ≠ .arr e n els .sld
  | [], _, i, g, h => by cases h
  | (k, u) :: l, hl, i, g, h => by
    intro e n els hg'
    subst hg'
    simp only [hg] at h
    split at h
    · cases h; simp [noSld] at hl
    · have : noSld l = true := by
        cases u with
        | box el st => simpa [noSld] using hl
        | arr e' n' els' st' => cases st' <;> first | (simpa [noSld] using hl) | (simp [noSld] at hl; done)
      exact noSld_spec l this i _ h e n els rfl

theorem tg_renT (x y : Nat) : ∀ (l : List (Nat × AV)) (i : Nat), tg (renT x y l) i = ren x y (tg l i)
  | [], _ => rfl
  | (k, v) :: l, i => by
    simp only [renT, tg]
    split
    · rfl
    · exact tg_renT x y l i

theorem hg_renH (x y : Nat) : ∀ (l : List (Nat × GE)) (i : Nat), hg (renH x y l) i = if i = x then none else (hg l i).map (renGE x y)
  | [], i => by simp [renH, hg]
  | (k, g) :: l, i => by
    simp only [renH]
    split
    · rename_i e; subst e
      rw [hg_renH k y l i]
      by_cases hi : i = k
      · simp [hi]
      · rw [if_neg hi, if_neg hi]
        simp only [hg]; rw [if_neg (fun h => hi h.symm)]
    · rename_i e
      simp only [hg]
      by_cases hki : k = i
      · subst hki; rw [if_pos rfl, if_neg e, if_pos rfl]; rfl
      · rw [if_neg hki, if_neg hki]; exact hg_renH x y l i

theorem sub_renB {x y : Nat} {σ : AS} (hxy : x ≠ y) : Sub σ.den (renB x y σ (hg σ.h y)).den := by
  cases hy : hg σ.h y with
  | some g => exact Sub.refl _
  | none =>
    simp only [renB]
    cases hx : hg σ.h x with
    | none => exact Sub.refl _
    | some g =>
      simp only [renO]
      have h := sub_ren (σ := σ.den) (x := x) (y := y) hy hxy
      have : (AS.mk (renT x y σ.t) (hs (renH x y σ.h) y (renGE x y g))).den = ⟨fun i => ren x y (σ.den.t i), fun i => if i = y then (σ.den.h x).map (renGE x y) else if i = x then none else (σ.den.h i).map (renGE x y)⟩ := by
        simp only [AS.den]
        congr 1
        · funext i; exact tg_renT x y σ.t i
        · funext i
          rw [hg_hs, hg_renH, hx]
          rfl
      rw [this]
      exact h

theorem sub_renAll : ∀ (l : List (Nat × GE)) (σ : AS), Sub σ.den (renAll l σ).den
  | [], σ => Sub.refl _
  | (k, g) :: l, σ => by
    simp only [renAll]
    split
    · exact (sub_renB (by omega)).trans (sub_renAll l _)
    · exact sub_renAll l σ

theorem sub_normA (σ : AS) : Sub σ.den (normA σ).den := by
  unfold normA
  split
  · rename_i h
    refine Sub.trans ?_ (sub_renAll _ _)
    have := sub_own (σ := σ.den) (fun i g hi => noSld_spec σ.h h i g hi)
    have e : (AS.mk σ.t (ownL σ.h)).den = ⟨σ.den.t, fun i => (σ.den.h i).map ownGE⟩ := by
      simp only [AS.den]; congr 1; funext i; exact hg_ownL σ.h i
    rw [e]; exact this
  · exact Sub.refl _

theorem sub_prune (ks : List Nat) (σ : AS) : Sub σ.den (prune ks σ).den := by
  have h1 : Sub σ.den (AS.mk (keepT ks σ.t) σ.h).den := sub_tmps (σ := σ.den) (fun i => tg_keepT ks σ.t i)
  unfold prune prune2 clsd
  split
  · rename_i hl
    refine h1.trans (Sub.trans ?_ (sub_normA _))
    refine sub_names (σ := (AS.mk (keepT ks σ.t) σ.h).den) (fun i => hg_keepH _ σ.h i) (fun i n hn => ?_) (fun i g hi n hn => ?_)
    · exact liveAll_spec hl n (List.mem_append.2 (.inl (nms_tg _ i n hn)))
    · exact liveAll_spec hl n (List.mem_append.2 (.inr (nms_hg _ i g n hi hn)))
  · exact h1

end Go.Ab

/- What is proved: small facts for a walk. No condition. -/
namespace Go.Ab
open Go

def argT : Nat → List AV → List (Nat × AV)
  | _, [] => []
  | i, a :: l => (i, a) :: argT (i + 1) l

theorem tg_argT : ∀ (l : List AV) (i j : Nat), tg (argT i l) j = if i ≤ j then (l[j - i]?).getD .top else .top
  | [], i, j => by simp [argT, tg]
  | a :: l, i, j => by
    simp only [argT, tg]
    by_cases h : i = j
    · subst h; simp
    · rw [if_neg h, tg_argT l (i + 1) j]
      by_cases h2 : i ≤ j
      · rw [if_pos (by omega), if_pos h2, show j - i = (j - (i + 1)) + 1 by omega]; simp
      · rw [if_neg (by omega), if_neg h2]

theorem st0_den (args : List AV) : st0 args = (AS.mk (argT 0 args) []).den := by
  unfold st0 AS.den
  congr 1
  · funext i
    simp [tg_argT]

section
variable {P : Program} {W : World} {N : Nat} {k : List It} {Q : Exit → SS → Prop} {σ : AS} {ops : Array Oper} {id : Nat}

/-- A region in the order in which it stands. -/
theorem run_regS (ks : List Nat) (hd : dstAll N ops.toList = true)
    (h : ∀ F : AS → Prop, (∀ σ' : AS, RUN P W N k Q (prune ks σ').den → F σ') → aops P W ops.toList false ops.toList σ [] F) : RUN P W N (.code (.region id ops false) :: k) Q σ.den :=
  run_reg (prune ks) (sub_prune ks) hd (by simp) h

/-- A region in any order. -/
theorem run_regD (ks : List Nat) (hd : dstAll N ops.toList = true) (hm : P.follows .mixedOrders = true) (he : edgesOk ops.toList 0 = true)
    (h : ∀ F : AS → Prop, (∀ σ' : AS, RUN P W N k Q (prune ks σ').den → F σ') → aops P W ops.toList true ops.toList σ [] F) : RUN P W N (.code (.region id ops true) :: k) Q σ.den :=
  run_reg (prune ks) (sub_prune ks) hd (fun _ => ⟨hm, he⟩) h

theorem run_condA {c : Operand} {x y : Code} {b : Bool} (hc : evL σ c = .val (.bool b)) (h1 : b = true → RUN P W N (.code x :: k) Q σ.den) (h2 : b = false → RUN P W N (.code y :: k) Q σ.den) :
    RUN P W N (.code (.cond c x y) :: k) Q σ.den := run_cond (by rw [evL_den]; exact hc) h1 h2
end

/-- What a walk owes at its end, read off the lists. -/
theorem fin_of {P : Program} {fn : Func} {r : AV} {σ : AS} {e : Exit} (he : e = .normal ∨ e = .ret) (fs : List (Nat × GE)) (hf : ∀ p ∈ fs, hg σ.h p.1 = some p.2 ∧ Frzable p.2) {Xs : List AV} (hr : resVL P σ.den fn.results.toList = some Xs) (hle : Le (clA fs (resV Xs)) r) (hc : r.clo = true) :
    FinP P fn r e σ.den := by
  rcases he with rfl | rfl <;> exact ⟨fs, Xs, hf, hr, hle, hc⟩

theorem aops_nil {P : Program} {W : World} {all : List Oper} {draw : Bool} {σ : AS} {fs : List Foot} {F : AS → Prop} : aops P W all draw [] σ fs F = ((draw = true → ordF (ancs all []) fs.reverse 0 = true) ∧ F σ) := rfl
theorem aops_cons {P : Program} {W : World} {all : List Oper} {draw : Bool} {o : Oper} {rest : List Oper} {σ : AS} {fs : List Foot} {F : AS → Prop} : aops P W all draw (o :: rest) σ fs F = aO P W all draw (aops P W all draw rest) σ fs F o.dst o.op o.guard := rfl
theorem aK_eff {P : Program} {W : World} {draw : Bool} {k : Kt} {σ : AS} {fs : List Foot} {F : AS → Prop} {ex : List Nat} {u : Upd} {f : Foot} : aK P W draw k σ fs F ex (.eff u f) = k (σ.up u) (addF draw ⟨ex ++ f.rt, f.wt, f.rh, f.wh⟩ fs) F := rfl
theorem aK_req {P : Program} {W : World} {draw : Bool} {k : Kt} {σ : AS} {fs : List Foot} {F : AS → Prop} {ex : List Nat} {p : Prop} {o : Out} : aK P W draw k σ fs F ex (.req p o) = (p ∧ aK P W draw k σ fs F ex o) := rfl
theorem aK_ite {P : Program} {W : World} {draw : Bool} {k : Kt} {σ : AS} {fs : List Foot} {F : AS → Prop} {ex : List Nat} {b : Bool} {x y : Out} : aK P W draw k σ fs F ex (.ite b x y) = ((b = true → aK P W draw k σ fs F ex x) ∧ (b = false → aK P W draw k σ fs F ex y)) := rfl
theorem aK_call {P : Program} {W : World} {draw : Bool} {k : Kt} {σ : AS} {fs : List Foot} {F : AS → Prop} {ex : List Nat} {f : FuncId} {As : List AV} {rt : List Nat} {dst : Option Nat} : aK P W draw k σ fs F ex (.call f As rt dst) = aCall P W draw k σ fs F ex f As rt dst := rfl

theorem addF_false {f : Foot} {fs : List Foot} : addF false f fs = fs := rfl
theorem addF_true {f : Foot} {fs : List Foot} : addF true f fs = f :: fs := rfl

theorem flat_agg (cs : List AV) : (AV.agg cs).flat = cs := rfl
theorem isAgg_agg (cs : List AV) : (AV.agg cs).isAgg = true := rfl
theorem sto_agg (cs : List AV) : (AV.agg cs).sto = cs.all AV.one := rfl
theorem flat_top  : (AV.top).flat = [AV.top] := rfl
theorem isAgg_top  : (AV.top).isAgg = false := rfl
theorem sto_top  : (AV.top).sto = false := rfl
theorem one_top  : (AV.top).one = false := rfl
theorem flat_val (v : Value) : (AV.val v).flat = [AV.val v] := rfl
theorem isAgg_val (v : Value) : (AV.val v).isAgg = false := rfl
theorem sto_val (v : Value) : (AV.val v).sto = v.oneCell' := rfl
theorem one_val (v : Value) : (AV.val v).one = v.oneCell' := rfl
theorem flat_str (l : List UInt8) : (AV.str l).flat = [AV.str l] := rfl
theorem isAgg_str (l : List UInt8) : (AV.str l).isAgg = false := rfl
theorem sto_str (l : List UInt8) : (AV.str l).sto = true := rfl
theorem one_str (l : List UInt8) : (AV.str l).one = true := rfl
theorem flat_tup (cs : List AV) : (AV.tup cs).flat = [AV.tup cs] := rfl
theorem isAgg_tup (cs : List AV) : (AV.tup cs).isAgg = false := rfl
theorem sto_tup (cs : List AV) : (AV.tup cs).sto = false := rfl
theorem one_tup (cs : List AV) : (AV.tup cs).one = false := rfl
theorem flat_sl (n : Nat) (els rest : List AV) : (AV.sl n els rest).flat = [AV.sl n els rest] := rfl
theorem isAgg_sl (n : Nat) (els rest : List AV) : (AV.sl n els rest).isAgg = false := rfl
theorem sto_sl (n : Nat) (els rest : List AV) : (AV.sl n els rest).sto = true := rfl
theorem one_sl (n : Nat) (els rest : List AV) : (AV.sl n els rest).one = true := rfl
theorem flat_ip (el : AV) (c : Nat) : (AV.ip el c).flat = [AV.ip el c] := rfl
theorem isAgg_ip (el : AV) (c : Nat) : (AV.ip el c).isAgg = false := rfl
theorem sto_ip (el : AV) (c : Nat) : (AV.ip el c).sto = true := rfl
theorem one_ip (el : AV) (c : Nat) : (AV.ip el c).one = true := rfl
theorem flat_gp (k c : Nat) : (AV.gp k c).flat = [AV.gp k c] := rfl
theorem isAgg_gp (k c : Nat) : (AV.gp k c).isAgg = false := rfl
theorem sto_gp (k c : Nat) : (AV.gp k c).sto = true := rfl
theorem one_gp (k c : Nat) : (AV.gp k c).one = true := rfl
theorem flat_ge (k i c : Nat) : (AV.ge k i c).flat = [AV.ge k i c] := rfl
theorem isAgg_ge (k i c : Nat) : (AV.ge k i c).isAgg = false := rfl
theorem sto_ge (k i c : Nat) : (AV.ge k i c).sto = true := rfl
theorem one_ge (k i c : Nat) : (AV.ge k i c).one = true := rfl
theorem flat_gs (k i len : Nat) : (AV.gs k i len).flat = [AV.gs k i len] := rfl
theorem isAgg_gs (k i len : Nat) : (AV.gs k i len).isAgg = false := rfl
theorem sto_gs (k i len : Nat) : (AV.gs k i len).sto = true := rfl
theorem one_gs (k i len : Nat) : (AV.gs k i len).one = true := rfl
theorem flat_fn (f : Fn) (xs ys : List AV) : (AV.fn f xs ys).flat = [AV.fn f xs ys] := rfl
theorem isAgg_fn (f : Fn) (xs ys : List AV) : (AV.fn f xs ys).isAgg = false := rfl
theorem sto_fn (f : Fn) (xs ys : List AV) : (AV.fn f xs ys).sto = true := rfl
theorem one_fn (f : Fn) (xs ys : List AV) : (AV.fn f xs ys).one = true := rfl
theorem flat_ifc (t : TypeId) (x : AV) : (AV.ifc t x).flat = [AV.ifc t x] := rfl
theorem isAgg_ifc (t : TypeId) (x : AV) : (AV.ifc t x).isAgg = false := rfl
theorem sto_ifc (t : TypeId) (x : AV) : (AV.ifc t x).sto = true := rfl
theorem one_ifc (t : TypeId) (x : AV) : (AV.ifc t x).one = true := rfl
theorem oneCell_int (k : IntKind) (n : Int) : (Value.int k n).oneCell' = true := rfl
theorem oneCell_bool (b : Bool) : (Value.bool b).oneCell' = true := rfl
theorem oneCell_slice (a : Option Addr) (m n : Nat) : (Value.slice a m n).oneCell' = true := rfl

theorem ldT_ty (P : Program) (T : TypeId) (el : AV) (c : Nat) : ldT P T el c = if (ty P T).ok = true then ldV (ty P T).ag (ty P T).size el c else none := by
  unfold ldT ty
  cases hd : P.underlying T with
  | none => simp
  | some d =>
    cases hi : P.info? T with
    | none => simp
    | some i =>
      have h : ∀ y : Ty, y.ok = true → (tyD P d y).ok = true := by intro y hy; cases d <;> exact hy
      have h1 := h { size := i.size, bytes := i.bytes, z := (i.zero.map zeroA).getD .top, okz := (i.zero.map fun z => decide (z.cells.size = i.size) && z.cells.toList.all Value.oneCell').getD false, ok := true } rfl
      simp only [h1, if_true, tyD_size]
      rw [tyD_ag (y := { size := i.size, bytes := i.bytes, z := (i.zero.map zeroA).getD .top, okz := (i.zero.map fun z => decide (z.cells.size = i.size) && z.cells.toList.all Value.oneCell').getD false, ok := true }) rfl]

theorem Le.of_eq {a b : AV} (h : a = b) : Le a b := h ▸ .refl a
theorem resV_one (x : AV) : resV [x] = x := rfl
theorem resV_two (x y : AV) : resV [x, y] = .tup [x, y] := rfl
theorem resV_three (x y z : AV) : resV [x, y, z] = .tup [x, y, z] := rfl
theorem iA_congr {k : IntKind} {m n : Int} (h : m = n) : AV.val (.int k m) = .val (.int k n) := by rw [h]

theorem clA_nil : ∀ a : AV, clA [] a = a
  | .gs k i len => by simp [clA, lk]
  | .agg cs => by simp only [clA]; rw [clL_nil cs]
  | .tup cs => by simp only [clA]; rw [clL_nil cs]
  | .ifc t x => by simp only [clA]; rw [clA_nil x]
  | .fn f xs ys => by simp only [clA]; rw [clL_nil xs, clL_nil ys]
  | .top => rfl
  | .val _ => rfl
  | .str _ => rfl
  | .sl _ _ _ => rfl
  | .ip _ _ => rfl
  | .gp _ _ => by simp [clA]
  | .ge _ _ _ => by simp [clA]
where
  clL_nil : ∀ l : List AV, clL [] l = l
  | [] => rfl
  | a :: l => by simp only [clL]; rw [clA_nil a, clL_nil l]

/-! ### Loops, guards, calls -/

section
variable {P : Program} {W : World} {N : Nat} {k : List It} {Q : Exit → SS → Prop} {σ : AS}

/-- A loop whose states are listed: S, one for each index. -/
theorem run_loopA {c : Code} {ι : Type} (S : ι → AS) (ok : ι → Prop) (μ : ι → Nat) (i0 : ι) (hs : Sub σ.den (S i0).den) (h0 : ok i0)
    (step : ∀ i, ok i → RUN P W N (.code c :: .chk (fun σ' => ∃ i', ok i' ∧ μ i' < μ i ∧ Sub σ' (S i').den) :: k) Q (S i).den) : RUN P W N (.code (.loop c) :: k) Q σ.den := by
  refine run_loop (fun m σ' => ∃ i, ok i ∧ m = μ i ∧ Sub σ' (S i).den) (μ i0) ⟨i0, h0, rfl, hs⟩ ?_
  rintro n σ' ⟨i, hi, rfl, hsub⟩
  refine run_sub hsub ?_
  have := step i hi
  intro E g hN a w hr
  refine wp_mono (this E g hN a w hr) fun e a' w' ⟨σ2, h2, r2⟩ => ⟨σ2, ?_, r2⟩
  revert h2
  cases e with
  | normal => rintro ⟨i', h3, h4, h5⟩; exact ⟨_, h4, i', h3, rfl, h5⟩
  | _ => exact id

theorem Kof_goto {E : Env} {l : Nat} {τ : SS} : ∀ k : List It, Kof P E Q k (.goto l) τ → Q (.goto l) τ
  | [], h => h
  | .code _ :: k, h => Kof_goto k h
  | .blk _ :: k, h => Kof_goto k h
  | .chk _ :: k, h => Kof_goto k h

/-- A scope that no jump leads into. -/
theorem run_scope {c : Code} {τ : SS} (hQ : ∀ l τ, ¬ Q (.goto l) τ) (h : RUN P W N (.code c :: k) Q τ) : RUN P W N (.code (.scope c) :: k) Q τ := by
  intro E g hN a w hr
  refine wp_scope_straight (wp_mono (h E g hN a w hr) fun e a' w' ⟨σ', h1, h2⟩ => ?_)
  cases e with
  | goto l => exact hQ l _ (Kof_goto k h1)
  | _ => exact ⟨σ', h1, h2⟩

theorem run_label {l : Nat} {τ : SS} (h : RUN P W N k Q τ) : RUN P W N (.code (.label l) :: k) Q τ := fun E g hN a w hr => wp_label ⟨τ, h E g hN, hr⟩

theorem Sub.of_eq {a b : AS} (h : a = b) : Sub a.den b.den := h ▸ Sub.refl _
end

section
variable {P : Program} {W : World} {draw : Bool} {k : Kt} {σ : AS} {fs : List Foot} {F : AS → Prop} {ex rt : List Nat} {f : FuncId} {As args : List AV} {dst : Option Nat} {d : Nat} {op : Op}

theorem aB_split {b : Bool} (h1 : b = true → aB P W draw k σ fs F d true dst op (.val (.bool b))) (h2 : b = false → aB P W draw k σ fs F d true dst op (.val (.bool b))) : aB P W draw k σ fs F d true dst op (.val (.bool b)) := by
  cases b with
  | true => exact h1 rfl
  | false => exact h2 rfl
theorem aB_split' {b : Bool} (h1 : b = true → aB P W draw k σ fs F d false dst op (.val (.bool b))) (h2 : b = false → aB P W draw k σ fs F d false dst op (.val (.bool b))) : aB P W draw k σ fs F d false dst op (.val (.bool b)) := by
  cases b with
  | true => exact h1 rfl
  | false => exact h2 rfl
theorem aB_tt : aB P W draw k σ fs F d true dst op (.val (.bool true)) = aK P W draw k σ fs F [d] (out P σ dst op) := by simp [aB]
theorem aB_ff : aB P W draw k σ fs F d false dst op (.val (.bool false)) = aK P W draw k σ fs F [d] (out P σ dst op) := by simp [aB]
theorem aB_un {want : Bool} : aB P W draw k σ fs F d want dst op (.val undef) = k (σ.up ⟨dst, .val undef, []⟩) (addF draw ⟨[d], dN dst, [], []⟩ fs) F := rfl
theorem aB_tf : aB P W draw k σ fs F d true dst op (.val (.bool false)) = k (σ.up ⟨dst, .val undef, []⟩) (addF draw ⟨[d], dN dst, [], []⟩ fs) F := by simp [aB]
theorem aB_ft : aB P W draw k σ fs F d false dst op (.val (.bool true)) = k (σ.up ⟨dst, .val undef, []⟩) (addF draw ⟨[d], dN dst, [], []⟩ fs) F := by simp [aB]

theorem clL_nil' (l : List AV) : clL [] l = l := clA_nil.clL_nil l

theorem aCall_flat0 {r : AV} (hc : Pure P W f args r) (hf : callable P f = true) (hle : LeL As args) (hcl : cloL args = true) (hfl : r.flt = true)
    (h : k (σ.up ⟨dst, r, []⟩) (addF draw ⟨ex ++ rt, dN dst, [], []⟩ fs) F) : aCall P W draw k σ fs F ex f As rt dst :=
  aCall_flat [] hc hf (by intro p hp; cases hp) (by intro p hp; cases hp) (by rw [clL_nil']; exact hle) hcl hfl h

theorem aCall_pure0 {r : AV} (hc : Pure P W f args r) (hf : callable P f = true) (hle : LeL As args) (hcl : cloL args = true)
    (h : k (σ.up ⟨dst, r, []⟩) (addF draw ⟨ex ++ rt, dN dst, [], []⟩ fs) F) : aCall P W draw k σ fs F ex f As rt dst :=
  aCall_pure [] hc hf (by intro p hp; cases hp) rfl (by intro p hp; cases hp) (by rw [clL_nil']; exact hle) hcl h
end

/-- A nil slice may be read as an empty slice of an array of one's own. -/
theorem sub_phantomA {σ : AS} (i d n : Nat) (e : TypeId) (hd : hg σ.h d = none) (hn : 0 < n) (hi : tg σ.t i = .val (.slice none 0 0)) :
    Sub σ.den (AS.mk (ts σ.t i (.gs d 0 0)) (hs σ.h d (.arr e n [] .own))).den := by
  have h := sub_phantom (σ := σ.den) (d := d) (n := n) (i := i) (e := e) hd hn hi
  have e1 : (AS.mk (ts σ.t i (.gs d 0 0)) (hs σ.h d (.arr e n [] .own))).den = ⟨tset σ.den.t (some i) (.gs d 0 0), hput σ.den.h d (some (.arr e n [] .own))⟩ := by
    simp only [AS.den]
    congr 1
    · funext j; exact tg_ts i _ σ.t j
    · funext j; rw [hg_hs]; simp only [hput]
  rw [e1]
  exact h

end Go.Ab

/- What is proved: a contract of the library's, as one of ours. No condition. -/
namespace Go.Ab
open Go Go.RowKit

def plainV : AV → Option Value
  | .val v => some v
  | .str l => some (.string ⟨l.toArray⟩)
  | _ => none

def plainL : List AV → Option (List Value)
  | [] => some []
  | a :: l => match plainV a, plainL l with | some v, some vs => some (v :: vs) | _, _ => none

theorem plainV_eq {β : Nat → Plc} {D I : Nat → Prop} {H : Array Obj} {m : Bool} {a : AV} {u v : Value} (h : R β D I H m a u) (hp : plainV a = some v) : u = v := by
  cases a with
  | val x => have := h.val_inv; simp only [plainV, Option.some.injEq] at hp; rw [this, hp]
  | str l => have := h.str_inv; simp only [plainV, Option.some.injEq] at hp; rw [this, hp]
  | _ => cases hp

theorem plainL_eq {β : Nat → Plc} {D I : Nat → Prop} {H : Array Obj} {m : Bool} : ∀ {as : List AV} {us vs : List Value}, RL β D I H m as us → plainL as = some vs → us = vs
  | [], _, _, .nil _, hp => by cases hp; rfl
  | a :: as, _, _, .cons h1 h2, hp => by
    simp only [plainL] at hp
    split at hp
    · rename_i v vs h3 h4
      cases hp
      rw [plainV_eq h1 h3, plainL_eq h2 h4]
    · cases hp

theorem ext_below {I : Nat → Prop} {w w' : World} (h : Below w.heap.size w w') (hi : ∀ b, I b → b < w.heap.size) : Ext I I w w' :=
  ⟨h.block, h.size, h.os, h.tape, h.output, fun _ h => h, fun b hb => ⟨Nat.lt_of_lt_of_le (hi b hb) h.size, fun _ => hb⟩⟩

/-- A contract that is had another way: arguments without places, an answer without places. -/
theorem pure_of_calls {P : Program} {W : World} {f : FuncId} {args : List AV} {vs : List Value} {r : AV} (hp : plainL args = some vs)
    (h : ∀ w, Over W w → Calls P f vs.toArray w fun e w' => ∃ v, e = .returned v ∧ (∀ (β : Nat → Plc) (D I : Nat → Prop) (H : Array Obj), R β D I H false r v) ∧ Below w.heap.size w w') : Pure P W f args r := by
  intro β D I w us ho hI hR
  rw [plainL_eq hR hp]
  exact (h w ho).mono fun e w' ⟨v, h1, h2, h3⟩ => ⟨I, v, h1, h2 _ _ _ _, ext_below h3 hI⟩

end Go.Ab

/- What is proved: arrays may be frozen in the midst of a walk. No condition. -/
namespace Go.Ab
open Go

def clGE (fs : List (Nat × GE)) : GE → GE
  | .box el .own => .box (clA fs el) .own
  | g => g

theorem clA_flat (fs : List (Nat × GE)) (a : AV) : (clA fs a).flat = clL fs a.flat := by
  cases a with
  | agg cs => simp only [clA, AV.flat]
  | gs k i len =>
    cases hl : lk fs k with
    | none => simp only [clA, hl, AV.flat, clL]
    | some g =>
      cases g with
      | box el st => simp only [clA, hl, AV.flat, clL]
      | arr e n els st =>
        by_cases h : i + len ≤ els.length
        · simp only [clA, hl, if_pos h, AV.flat, clL]
        · simp only [clA, hl, if_neg h, AV.flat, clL]
  | _ => simp only [clA, AV.flat, clL]

theorem frz_at {h : Nat → Option GE} {fs : List (Nat × GE)} (hfs : ∀ p ∈ fs, h p.1 = some p.2 ∧ Frzable p.2) : ∀ p ∈ fs, frzH h fs p.1 = some (frzGE p.2) ∧ Frzable p.2 := fun p hp => by
  refine ⟨?_, (hfs p hp).2⟩
  unfold frzH
  cases hl : lk fs p.1 with
  | none =>
    exfalso
    have : ∀ l : List (Nat × GE), p ∈ l → lk l p.1 ≠ none := by
      intro l
      induction l with
      | nil => intro h; cases h
      | cons q l ih =>
        intro hq
        obtain ⟨i', g'⟩ := q
        simp only [lk]
        split
        · simp
        · rename_i hne
          rcases List.mem_cons.1 hq with rfl | hq
          · exact absurd rfl hne
          · exact ih hq
    exact this fs hp hl
  | some g =>
    have := (hfs _ (lk_mem hl)).1
    rw [(hfs p hp).1] at this
    cases this
    rfl

theorem sub_frz {σ : SS} {fs : List (Nat × GE)} (hfs : ∀ p ∈ fs, σ.h p.1 = some p.2 ∧ Frzable p.2) :
    Sub σ ⟨fun i => clA fs (σ.t i), fun i => (frzH σ.h fs i).map (clGE fs)⟩ := by
  rintro E a w ⟨β, I, r⟩
  have r2 := r.freeze hfs
  have hf2 := frz_at hfs
  generalize hI : (fun b => I b ∨ ∃ p ∈ fs, (β p.1).z ≠ 0 ∧ (β p.1).b = b) = I2 at r2
  have hd : dom (fun i => (frzH σ.h fs i).map (clGE fs)) = dom (frzH σ.h fs) := by funext i; simp [dom]
  have back : ∀ i g, (frzH σ.h fs i).map (clGE fs) = some g → ∃ g0, frzH σ.h fs i = some g0 ∧ g = clGE fs g0 := fun i g hi => by
    cases h : frzH σ.h fs i with
    | none => rw [h] at hi; cases hi
    | some g0 => rw [h] at hi; cases hi; exact ⟨g0, rfl, rfl⟩
  have hbk : ∀ i g0, Backed (β i) (clGE fs g0) → Backed (β i) g0 := fun i g0 h => by
    cases g0 with
    | box el st => trivial
    | arr e n els st => exact h
  refine ⟨β, I2, fun i => ?_, ⟨fun i g hi => ?_, r2.inv.imm, ?_⟩, ?_, r2.size, r2.defers⟩
  · have := R_clA r2 hf2 (r2.tmps i)
    show R β (dom fun i => (frzH σ.h fs i).map (clGE fs)) _ _ _ _ _
    rw [hd]; exact this
  · obtain ⟨g0, h0, rfl⟩ := back i g hi
    have h1 := r2.inv.ge i g0 h0
    show GEok β (dom fun i => (frzH σ.h fs i).map (clGE fs)) _ _ _ _
    rw [hd]
    cases g0 with
    | arr e n els st => exact h1
    | box el st =>
      cases st <;> try exact h1
      obtain ⟨vs, T, g1, g2, g3, g4, g5, g6⟩ := h1
      exact ⟨vs, T, g1, g2, by rw [clA_flat]; exact RL_clL r2 hf2 g3, g4, g5, g6⟩
  · intro i i' g g' hne h1 h2 b1 b2 hb
    obtain ⟨g0, q1, rfl⟩ := back i g h1
    obtain ⟨g0', q2, rfl⟩ := back i' g' h2
    have := r2.inv.sep i i' g0 g0' hne q1 q2 (hbk _ _ b1) (hbk _ _ b2) hb
    cases g0 with
    | box el st => exact this.elim
    | arr e n els st =>
      cases g0' with
      | box el' st' => cases st <;> exact this.elim
      | arr e' n' els' st' => exact this
  · obtain ⟨f1, f2, f3, f4, f5, f6, f7, f8⟩ := r2.fr
    exact ⟨f1, f2, f3, f4, f5, f6, f7, fun k g hk => by
      obtain ⟨g0, h0, rfl⟩ := back k g hk
      have := f8 k g0 h0
      cases g0 with
      | arr e n els st => exact this
      | box el st => cases st <;> exact this⟩

def clT (fs : List (Nat × GE)) : List (Nat × AV) → List (Nat × AV)
  | [] => []
  | (k, v) :: l => (k, clA fs v) :: clT fs l

def frzG (fs : List (Nat × GE)) (g : GE) : Option GE → GE
  | some g' => clGE fs (frzGE g')
  | none => clGE fs g

def frzL (fs : List (Nat × GE)) : List (Nat × GE) → List (Nat × GE)
  | [] => []
  | (k, g) :: l => (k, frzG fs g (lk fs k)) :: frzL fs l

theorem tg_clT (fs : List (Nat × GE)) : ∀ (l : List (Nat × AV)) (i : Nat), tg (clT fs l) i = clA fs (tg l i)
  | [], i => by simp only [clT, tg, clA]
  | (k, v) :: l, i => by
    simp only [clT, tg]
    split
    · rfl
    · exact tg_clT fs l i

theorem hg_frzL (fs : List (Nat × GE)) : ∀ (l : List (Nat × GE)) (i : Nat), hg (frzL fs l) i = (hg l i).map fun g => frzG fs g (lk fs i)
  | [], i => rfl
  | (k, g) :: l, i => by
    simp only [frzL, hg]
    split
    · rename_i e; subst e; rfl
    · exact hg_frzL fs l i

/-- Frozen, and read so. -/
def AS.frz (fs : List (Nat × GE)) (σ : AS) : AS := ⟨clT fs σ.t, frzL fs σ.h⟩

theorem sub_frzA {σ : AS} (fs : List (Nat × GE)) (hfs : ∀ p ∈ fs, hg σ.h p.1 = some p.2 ∧ Frzable p.2) : Sub σ.den (σ.frz fs).den := by
  have h := sub_frz (σ := σ.den) hfs
  have e : (σ.frz fs).den = ⟨fun i => clA fs (σ.den.t i), fun i => (frzH σ.den.h fs i).map (clGE fs)⟩ := by
    simp only [AS.den, AS.frz]
    congr 1
    · funext i; exact tg_clT fs σ.t i
    · funext i
      rw [hg_frzL]
      unfold frzH
      cases hl : lk fs i with
      | none => rfl
      | some g' =>
        have := (hfs _ (lk_mem hl)).1
        simp only at this
        rw [this]; rfl
  rw [e]
  exact h

end Go.Ab

/- What is proved: contracts of functions that hand back memory of their own, to be written by the caller. No condition. -/
namespace Go.Ab
open Go

/-! ### Names, renamed -/

def rn : List (Nat × Nat) → Nat → Nat
  | [], k => k
  | (x, y) :: l, k => if x = k then y else rn l k

mutual
def renF (φ : Nat → Nat) : AV → AV
  | .gp k c => .gp (φ k) c
  | .ge k i c => .ge (φ k) i c
  | .gs k i len => .gs (φ k) i len
  | .agg cs => .agg (renFL φ cs)
  | .tup cs => .tup (renFL φ cs)
  | .fn f xs ys => .fn f (renFL φ xs) (renFL φ ys)
  | .ifc t a => .ifc t (renF φ a)
  | .top => .top
  | .val v => .val v
  | .str l => .str l
  | .sl n els rest => .sl n els rest
  | .ip el c => .ip el c
def renFL (φ : Nat → Nat) : List AV → List AV
  | [] => []
  | a :: l => renF φ a :: renFL φ l
end

section
variable {β β' : Nat → Plc} {D D' I : Nat → Prop} {H : Array Obj} {φ : Nat → Nat}
mutual
theorem R.renF (K : ∀ k, D k → D' (φ k) ∧ β' (φ k) = β k) : ∀ {m a v}, R β D I H m a v → R β' D' I H m (renF φ a) v
  | _, _, _, .top m v => .top m v
  | _, _, _, .val m v => .val m v
  | _, _, _, .str m l => .str m l
  | _, _, _, .agg h => .agg (RL.renF K h)
  | _, _, _, .tup h => .tup (RL.renF K h)
  | _, _, _, .sl vs h1 h2 h3 h4 h4' h5 h6 h7 h8 h9 => .sl vs h1 h2 h3 h4 h4' h5 h6 (h7.closed (fun b hb => ⟨hb, rfl⟩) rfl false) h8 h9
  | _, _, _, .sl0 => .sl0
  | _, _, _, .ip vs h1 h3 h4 h5 h6 => .ip vs h1 h3 (h4.closed (fun b hb => ⟨hb, rfl⟩) rfl false) h5 h6
  | _, _, _, .gp h => (K _ h).2 ▸ .gp (K _ h).1
  | _, _, _, .ge h => (K _ h).2 ▸ .ge (K _ h).1
  | _, _, _, .gs h h1 h2 h3 => .gs (K _ h).1 h1 h2 (by rw [(K _ h).2]; exact h3)
  | _, _, _, .fn h1 h2 => .fn (RL.renF K h1) (RL.renF K h2)
  | _, _, _, .ifc h => .ifc (R.renF K h)
theorem RL.renF (K : ∀ k, D k → D' (φ k) ∧ β' (φ k) = β k) : ∀ {m as vs}, RL β D I H m as vs → RL β' D' I H m (renFL φ as) vs
  | _, _, _, .nil m => .nil m
  | _, _, _, .cons h1 h2 => .cons (R.renF K h1) (RL.renF K h2)
end
end

theorem renF_flat (φ : Nat → Nat) (a : AV) : (renF φ a).flat = renFL φ a.flat := by
  cases a <;> simp [renF, AV.flat, renFL]

def renG (φ : Nat → Nat) : GE → GE
  | .box el st => .box (renF φ el) st
  | .arr e n els st => .arr e n els st

theorem renG_backed (φ : Nat → Nat) (p : Plc) (g : GE) : Backed p (renG φ g) ↔ Backed p g := by cases g <;> exact Iff.rfl

theorem GEok.renG {β β' : Nat → Plc} {D D' I : Nat → Prop} {H : Array Obj} {φ : Nat → Nat} (K : ∀ k, D k → D' (φ k) ∧ β' (φ k) = β k) {k : Nat} {g : GE} (hb : β' (φ k) = β k) (h : GEok β D I H k g) : GEok β' D' I H (φ k) (renG φ g) := by
  cases g with
  | box el st =>
    obtain ⟨vs, T, g1, g2, g3, g4, g5, g6⟩ := h
    refine ⟨vs, T, by rw [hb]; exact g1, by rw [hb]; exact g2, ?_, g4, fun e => by rw [hb]; exact g5 e, fun e => by rw [hb]; exact g6 e⟩
    rw [renF_flat]
    exact g3.renF K
  | arr e n els st =>
    obtain ⟨g1, g2, g3, g4⟩ := h
    refine ⟨by rw [hb]; exact g1, g2, g3, ?_⟩
    rw [hb]
    rcases g4 with g4 | ⟨g4, vs, g5, g6, g7, g8, g9⟩
    · exact .inl g4
    · exact .inr ⟨g4, vs, g5, g6, g7, g8.closed (fun b hb => ⟨hb, rfl⟩) rfl false, g9⟩

/-! ### The contract -/

/-- What it hands back reads as r; the names in h are its own new memory, which nobody else has. -/
def RetH (P : Program) (W : World) (f : FuncId) (args : List AV) (r : AV) (h : List (Nat × GE)) : Prop :=
  ∀ (β : Nat → Plc) (D I : Nat → Prop) (w : World) (vs : List Value), Over W w → (∀ b, I b → b < w.heap.size) → RL β D I w.heap false args vs →
    Calls P f vs.toArray w fun e w' => ∃ β' I' v, e = .returned v ∧ R β' (dom (hg h)) I' w'.heap true r v ∧ Inv β' I' (hg h) w'.heap ∧ Ext I I' w w' ∧
      (∀ k g, hg h k = some g → Backed (β' k) g → w.heap.size ≤ (β' k).b)

def ownAll : List (Nat × GE) → Bool
  | [] => true
  | (_, g) :: l => if g.st = .own then ownAll l else false

def nodupN : List Nat → Bool
  | [] => true
  | x :: l => if memN x l = true then false else nodupN l

theorem ownAll_spec : ∀ {l : List (Nat × GE)}, ownAll l = true → ∀ p ∈ l, p.2.st = .own
  | [], _, p, hp => by cases hp
  | (k, g) :: l, h, p, hp => by
    simp only [ownAll] at h
    split at h
    · rename_i e
      rcases List.mem_cons.1 hp with rfl | hp
      · exact e
      · exact ownAll_spec h p hp
    · cases h

theorem memN_iff (x : Nat) : ∀ l : List Nat, memN x l = true ↔ x ∈ l
  | [] => by simp [memN]
  | y :: l => by
    simp only [memN, List.mem_cons]
    split
    · rename_i e; simp [e]
    · rename_i e; rw [memN_iff x l]; simp [e]

/-- Which name of the callee's stands behind a name of the caller's. -/
def bk (φ : Nat → Nat) : List (Nat × GE) → Nat → Option Nat
  | [], _ => none
  | (k, _) :: l, i => if φ k = i then some k else bk φ l i

theorem bk_mem {φ : Nat → Nat} : ∀ {l : List (Nat × GE)} {i k : Nat}, bk φ l i = some k → φ k = i ∧ k ∈ l.map (·.1)
  | [], _, _, h => by cases h
  | (x, g) :: l, i, k, h => by
    simp only [bk] at h
    split at h
    · cases h; rename_i e; exact ⟨e, by simp⟩
    · obtain ⟨h1, h2⟩ := bk_mem h; exact ⟨h1, by simp only [List.map_cons, List.mem_cons]; exact .inr h2⟩

theorem bk_none {φ : Nat → Nat} : ∀ {l : List (Nat × GE)} {i : Nat}, i ∉ l.map (fun p => φ p.1) → bk φ l i = none
  | [], _, _ => rfl
  | (x, g) :: l, i, h => by
    simp only [List.map_cons, List.mem_cons, not_or] at h
    simp only [bk]
    rw [if_neg (fun e => h.1 e.symm)]
    exact bk_none h.2

theorem bk_none_of {φ : Nat → Nat} : ∀ {l : List (Nat × GE)} {i : Nat}, bk φ l i = none → ∀ p ∈ l, φ p.1 ≠ i
  | [], _, _, p, hp => by cases hp
  | (x, g) :: l, i, h, p, hp => by
    simp only [bk] at h
    split at h
    · cases h
    · rename_i e
      rcases List.mem_cons.1 hp with rfl | hp
      · exact e
      · exact bk_none_of h p hp

theorem hg_mem : ∀ {l : List (Nat × GE)} {k : Nat} {g : GE}, hg l k = some g → (k, g) ∈ l
  | [], _, _, h => by cases h
  | (x, u) :: l, k, g, h => by
    simp only [hg] at h
    split at h
    · rename_i e; subst e; cases h; exact List.mem_cons_self
    · exact List.mem_cons.2 (.inr (hg_mem h))

def frshW (φ : Nat → Nat) (l : List (Nat × GE)) : List (Nat × Option GE) := l.map fun p => (φ p.1, some (renG φ p.2))

def frshH (φ : Nat → Nat) (l : List (Nat × GE)) (h : Nat → Option GE) (i : Nat) : Option GE :=
  match bk φ l i with
  | some k => (hg l k).map (renG φ)
  | none => h i

theorem hset_frsh (φ : Nat → Nat) : ∀ (l : List (Nat × GE)) (h : Nat → Option GE), (l.map fun p => φ p.1).Nodup → hset h (frshW φ l) = frshH φ l h
  | [], h, _ => rfl
  | (k, g) :: l, h, hn => by
    simp only [List.map_cons, List.nodup_cons] at hn
    simp only [frshW, List.map_cons, hset]
    have := hset_frsh φ l (fun i => if i = φ k then some (renG φ g) else h i) hn.2
    unfold frshW at this
    rw [this]
    funext i
    simp only [frshH, bk, hg]
    by_cases e : φ k = i
    · subst e
      rw [bk_none hn.1]
      simp
    · rw [if_neg e]
      cases hb : bk φ l i with
      | none => simp only; rw [if_neg (fun h => e h.symm)]
      | some k' =>
        simp only
        have hne : ¬ k = k' := fun e2 => e (by rw [e2]; exact (bk_mem hb).1)
        rw [if_neg hne]

theorem hset_app : ∀ (l k : List (Nat × Option GE)) (h : Nat → Option GE), hset h (l ++ k) = hset (hset h l) k
  | [], k, h => rfl
  | (i, g) :: l, k, h => by simp only [List.cons_append, hset]; exact hset_app l k _

theorem inj_of_nodup {φ : Nat → Nat} : ∀ {l : List (Nat × GE)}, (l.map fun p => φ p.1).Nodup → ∀ k k', k ∈ l.map (·.1) → k' ∈ l.map (·.1) → φ k = φ k' → k = k'
  | [], _, k, k', h, _, _ => by simp at h
  | (x, g) :: l, hn, k, k', h1, h2, e => by
    simp only [List.map_cons, List.nodup_cons] at hn
    simp only [List.map_cons, List.mem_cons] at h1 h2
    have im : ∀ q, q ∈ l.map (·.1) → φ q ∈ l.map (fun p => φ p.1) := fun q hq => by
      obtain ⟨p, hp, rfl⟩ := List.mem_map.1 hq
      exact List.mem_map.2 ⟨p, hp, rfl⟩
    rcases h1 with rfl | h1 <;> rcases h2 with rfl | h2
    · rfl
    · exact absurd (e ▸ im _ h2) hn.1
    · exact absurd (e ▸ im _ h1) hn.1
    · exact inj_of_nodup hn.2 k k' h1 h2 e

theorem bk_of {φ : Nat → Nat} {l : List (Nat × GE)} (hn : (l.map fun p => φ p.1).Nodup) {k : Nat} (hk : k ∈ l.map (·.1)) : bk φ l (φ k) = some k := by
  cases hb : bk φ l (φ k) with
  | none =>
    obtain ⟨p, hp, rfl⟩ := List.mem_map.1 hk
    exact absurd rfl (bk_none_of hb p hp)
  | some k' =>
    obtain ⟨h1, h2⟩ := bk_mem hb
    rw [inj_of_nodup hn _ _ h2 hk h1]

theorem not_compat_own {g g' : GE} (h : g.st = .own) : ¬ Compat g g' := by
  cases g with
  | box el st => exact id
  | arr e n els st =>
    simp only [GE.st] at h
    subst h
    cases g' with
    | box el st => exact id
    | arr e n els st => cases st <;> exact id

/-- The call of a function that hands back new memory. -/
theorem ok_callH {P : Program} {W : World} {o : Oper} {t : Nat → AV} {f : FuncId} {xs : Array Operand} {ts : Array TypeId} {As args : List AV} {fs : List (Nat × GE)} {r : AV} {h' : List (Nat × GE)} {φ : Nat → Nat}
    (ho : o.op = .call { callee := .value (.func f), args := xs, argTypes := ts }) (hf : callable P f = true) (hAs : xs.toList.map (evA t) = As) (hfz : Frzall fs) (hon : once fs = true)
    (hle : LeL (clL fs As) args) (hcl : cloL args = true) (hc : RetH P W f args r h') (hno : (h'.map fun p => φ p.1).Nodup) (hown : ∀ p ∈ h', p.2.st = .own) (hd : ∀ p ∈ h', lk fs (φ p.1) = none) :
    LocalOKW P W o { rt := rds (xs.toList.zip As), rh := (h'.map fun p => (φ p.1, none)) ++ frzR fs, dst := o.dst, v := renF φ r, wh := frzW fs ++ frshW φ h' } := by
  intro E σ a w K Q hg' hN hr ⟨β, I, ra⟩ hk
  have hlen : xs.toList.length = As.length := by rw [← hAs]; simp
  have hR : RL β (dom σ.h) I w.heap true As (xs.toList.map a.eval) := RL_evs _ _ hlen fun p hp => by
    have he : evA t p.1 = p.2 := by
      rw [← hAs, List.zip_map_right] at hp
      obtain ⟨q, hq, rfl⟩ := List.mem_map.1 hp
      obtain ⟨q1, q2⟩ := q
      have : q1 = q2 := by
        have : ∀ l : List Operand, (q1, q2) ∈ l.zip l → q1 = q2 := by
          intro l
          induction l with
          | nil => intro h; simp at h
          | cons z l ih => intro h; simp only [List.zip_cons_cons, List.mem_cons] at h; rcases h with h | h; cases h; rfl; exact ih h
        exact this _ hq
      subst this; rfl
    exact R_ev ra (ev_reads he (fun q hq => hr.1 q (List.mem_flatMap.2 ⟨p, hp, hq⟩)))
  have hfresh : ∀ p ∈ h', σ.h (φ p.1) = none := fun p hp => hr.2 (φ p.1, none) (by simp only [List.mem_append]; exact .inl (List.mem_map.2 ⟨p, hp, rfl⟩))
  obtain ⟨r2, hR2⟩ := args_closed ra (fun p hp => hr.2 (p.1, some p.2) (by simp only [List.mem_append]; exact .inr (List.mem_map.2 ⟨p, hp, rfl⟩))) hfz hR hle hcl
  generalize hI2 : (fun b => I b ∨ ∃ p ∈ fs, (β p.1).z ≠ 0 ∧ (β p.1).b = b) = I2 at r2 hR2
  refine upon_call ho hf (R := _) (by have := hc β (dom (frzH σ.h fs)) _ w _ (r2.over hg') r2.inv.imm hR2; rwa [show (xs.toList.map a.eval).toArray = xs.map a.eval by rw [← Array.toList_map]] at this) ?_
  rintro e' w' ⟨β', I', v, rfl, hv, hinv, hx, hnew⟩
  refine ⟨v, rfl, hk _ _ ⟨fun i => match bk φ h' i with | some k => β' k | none => β i, I', ?_⟩⟩
  generalize hβ : (fun i => match bk φ h' i with | some k => β' k | none => β i) = β3
  have hd2 : ∀ p ∈ h', frzH σ.h fs (φ p.1) = none := fun p hp => by simp only [frzH, hd p hp, hfresh p hp]
  have r3 := r2.ext hx (dst := none) (res := .top) (v := undef) (fun _ h => by cases h) (.top _ _)
  have hnone : ∀ i, (frzH σ.h fs i).isSome = true → bk φ h' i = none := fun i hi => bk_none fun hm => by
    obtain ⟨p, hp, rfl⟩ := List.mem_map.1 hm
    rw [hd2 p hp] at hi; cases hi
  have hold : ∀ i, (frzH σ.h fs i).isSome = true → β3 i = β i := fun i hi => by rw [← hβ]; simp only [hnone i hi]
  have hnewb : ∀ k, k ∈ h'.map (·.1) → β3 (φ k) = β' k := fun k hk => by rw [← hβ]; simp only [bk_of hno hk]
  have K2 : Keep β β3 (dom (frzH σ.h fs)) (dom (frshH φ h' (frzH σ.h fs))) I' I' w'.heap w'.heap := by
    refine ⟨fun i hi => ⟨?_, hold i hi⟩, fun b hb => ⟨hb, rfl⟩⟩
    simp only [dom, frshH, hnone i hi]; exact hi
  have Kn : ∀ k, dom (hg h') k → dom (frshH φ h' (frzH σ.h fs)) (φ k) ∧ β3 (φ k) = β' k := fun k hk => by
    have hk2 : k ∈ h'.map (·.1) := by
      simp only [dom] at hk
      cases hgk : hg h' k with
      | none => rw [hgk] at hk; cases hk
      | some g => exact List.mem_map.2 ⟨_, hg_mem hgk, rfl⟩
    refine ⟨?_, hnewb k hk2⟩
    simp only [dom, frshH, bk_of hno hk2]
    simpa using hk
  have hset2 : hset σ.h (frzW fs ++ frshW φ h') = frshH φ h' (frzH σ.h fs) := by rw [hset_app, hset_frz _ _ hon, hset_frsh _ _ _ hno]
  have hbk : ∀ i g, frzH σ.h fs i = some g → Backed (β i) g → (β i).b < w.heap.size := fun i g hi hb => (r2.inv.ge i g hi).lt hb
  have back : ∀ i g, frshH φ h' (frzH σ.h fs) i = some g → (bk φ h' i = none ∧ frzH σ.h fs i = some g ∧ β3 i = β i) ∨ (∃ k g0, hg h' k = some g0 ∧ g = renG φ g0 ∧ i = φ k ∧ β3 i = β' k) := fun i g hi => by
    simp only [frshH] at hi
    cases hb : bk φ h' i with
    | none =>
      rw [hb] at hi
      exact .inl ⟨rfl, hi, hold i (by simp only at hi; rw [hi]; rfl)⟩
    | some k =>
      rw [hb] at hi
      obtain ⟨h1, h2⟩ := bk_mem hb
      simp only at hi
      cases hgk : hg h' k with
      | none => rw [hgk] at hi; cases hi
      | some g0 => rw [hgk] at hi; cases hi; exact .inr ⟨k, g0, hgk, rfl, h1.symm, by rw [← h1]; exact hnewb k h2⟩
  simp only [SS.upd, hset2]
  refine r3.step (dst := o.dst) hN K2 (hv.renF Kn) ⟨?_, hinv.imm, ?_⟩ ?_
  · intro i g hi
    rcases back i g hi with ⟨_, h1, h2⟩ | ⟨k, g0, h1, rfl, rfl, h2⟩
    · exact (r3.inv.ge i g h1).keep K2 h2 (fun _ => rfl) (fun _ => Iff.rfl)
    · exact (hinv.ge k g0 h1).renG Kn h2
  · intro i i' g1 g2 hne h1 h2 b1 b2 hb
    rcases back i g1 h1 with ⟨_, p1, q1⟩ | ⟨k, g0, p1, rfl, rfl, q1⟩ <;> rcases back i' g2 h2 with ⟨_, p2, q2⟩ | ⟨k', g0', p2, rfl, rfl, q2⟩
    · rw [q1] at b1 hb; rw [q2] at b2 hb
      exact r3.inv.sep i i' g1 g2 hne p1 p2 b1 b2 hb
    · rw [q1] at b1 hb; rw [q2] at b2 hb
      have a1 := hbk i g1 p1 b1
      have a2 := hnew k' g0' p2 ((renG_backed φ _ _).1 b2)
      omega
    · rw [q1] at b1 hb; rw [q2] at b2 hb
      have a1 := hbk i' g2 p2 b2
      have a2 := hnew k g0 p1 ((renG_backed φ _ _).1 b1)
      omega
    · rw [q1] at b1 hb; rw [q2] at b2 hb
      have := hinv.sep k k' g0 g0' (fun e => hne (by rw [e])) p1 p2 ((renG_backed φ _ _).1 b1) ((renG_backed φ _ _).1 b2) hb
      exact absurd this (not_compat_own (hown _ (hg_mem p1)))
  · obtain ⟨f1, f2, f3, f4, f5, f6, f7, f8⟩ := r3.fr
    refine ⟨f1, f2, f3, f4, f5, f6, f7, fun i g hi b1 hs => ?_⟩
    rcases back i g hi with ⟨_, p1, q1⟩ | ⟨k, g0, p1, rfl, rfl, q1⟩
    · rw [q1] at b1 ⊢
      exact f8 i g p1 b1 hs
    · rw [q1] at b1 ⊢
      have := hnew k g0 p1 ((renG_backed φ _ _).1 b1)
      have := r2.fr.size
      left; omega

theorem nodup_of : ∀ {l : List Nat}, nodupN l = true → l.Nodup
  | [], _ => List.nodup_nil
  | x :: l, h => by
    simp only [nodupN] at h
    split at h
    · cases h
    · rename_i hm
      exact List.nodup_cons.2 ⟨fun hx => hm ((memN_iff x l).2 hx), nodup_of h⟩

def freshAll (φ : Nat → Nat) (σ : AS) : List (Nat × GE) → Bool
  | [] => true
  | (k, _) :: l => if (hg σ.h (φ k)).isNone = true then freshAll φ σ l else false

theorem freshAll_spec {φ : Nat → Nat} {σ : AS} : ∀ {l : List (Nat × GE)}, freshAll φ σ l = true → ∀ p ∈ l, hg σ.h (φ p.1) = none
  | [], _, p, hp => by cases hp
  | (k, g) :: l, h, p, hp => by
    simp only [freshAll] at h
    split at h
    · rename_i e
      rcases List.mem_cons.1 hp with rfl | hp
      · simpa using e
      · exact freshAll_spec h p hp
    · cases h

section
variable {P : Program} {W : World} {draw : Bool} {k : Kt} {σ : AS} {fs : List Foot} {F : AS → Prop} {ex rt : List Nat} {f : FuncId} {As args : List AV} {dst : Option Nat}

theorem aCall_retH (ρ : List (Nat × Nat)) (gs : List (Nat × GE)) {r : AV} {h' : List (Nat × GE)} (hc : RetH P W f args r h') (hf : callable P f = true) (hfz : Frzall gs) (hon : once gs = true) (hn : namesIn σ gs) (hle : LeL (clL gs As) args) (hcl : cloL args = true)
    (hno : nodupN (h'.map fun p => rn ρ p.1) = true) (hown : ownAll h' = true) (hfr : freshAll (rn ρ) σ h' = true)
    (h : k (σ.up ⟨dst, renF (rn ρ) r, (gs.map fun p => (p.1, frzGE p.2)) ++ h'.map fun p => (rn ρ p.1, renG (rn ρ) p.2)⟩) (addF draw ⟨ex ++ rt, dN dst, (h'.map fun p => rn ρ p.1) ++ gs.map (·.1), gs.map (·.1) ++ h'.map fun p => rn ρ p.1⟩ fs) F) : aCall P W draw k σ fs F ex f As rt dst := by
  refine ⟨⟨dst, renF (rn ρ) r, (gs.map fun p => (p.1, frzGE p.2)) ++ h'.map fun p => (rn ρ p.1, renG (rn ρ) p.2)⟩, ⟨rt, dN dst, (h'.map fun p => rn ρ p.1) ++ gs.map (·.1), gs.map (·.1) ++ h'.map fun p => rn ρ p.1⟩, ?_, h⟩
  rintro o ⟨hd, xs, ts, ho, hAs, hrt⟩
  subst hd
  have hfr' := freshAll_spec hfr
  refine ⟨_, ok_callH (φ := rn ρ) ho hf (evs_eq _) hfz hon (by rw [hAs]; exact hle) hcl hc (nodup_of hno) (ownAll_spec hown) (fun p hp => ?_), ⟨reads_rds (zip_self_ev _), fun p hp => ?_⟩, ?_, up_den _ _ _ rfl rfl (by simp only [frzW, frshW, List.map_append, List.map_map]; rfl), rfl⟩
  · cases hl : lk gs (rn ρ p.1) with
    | none => rfl
    | some g => have := hn _ (lk_mem hl); rw [hfr' p hp] at this; cases this
  · rcases List.mem_append.1 hp with hp | hp
    · obtain ⟨q, hq, rfl⟩ := List.mem_map.1 hp; exact hfr' q hq
    · obtain ⟨q, hq, rfl⟩ := List.mem_map.1 hp; exact hn q hq
  · show Foot.mk _ _ _ _ = Foot.mk _ _ _ _
    rw [keys_rds, keys_wT, zip_fst, hrt]
    simp only [keys, frzR, frzW, frshW, List.map_map, List.map_append]; rfl

theorem aCall_retH0 (ρ : List (Nat × Nat)) {r : AV} {h' : List (Nat × GE)} (hc : RetH P W f args r h') (hf : callable P f = true) (hle : LeL As args) (hcl : cloL args = true)
    (hno : nodupN (h'.map fun p => rn ρ p.1) = true) (hown : ownAll h' = true) (hfr : freshAll (rn ρ) σ h' = true)
    (h : k (σ.up ⟨dst, renF (rn ρ) r, h'.map fun p => (rn ρ p.1, renG (rn ρ) p.2)⟩) (addF draw ⟨ex ++ rt, dN dst, (h'.map fun p => rn ρ p.1), h'.map fun p => rn ρ p.1⟩ fs) F) : aCall P W draw k σ fs F ex f As rt dst :=
  aCall_retH ρ [] hc hf (by intro p hp; cases hp) rfl (by intro p hp; cases hp) (by rw [clL_nil']; exact hle) hcl hno hown hfr (by simpa using h)
end

/-! ### From a walk -/

/-- What a walk owes at its end: what it hands back is read, then all else is let go. -/
def FinH (P : Program) (fn : Func) (r : AV) (h : List (Nat × GE)) : Exit → SS → Prop
  | .normal, σ | .ret, σ => ∃ (σ1 : AS) (Xs : List AV) (X : AV), Sub σ σ1.den ∧ resVL P σ1.den fn.results.toList = some Xs ∧ prune [0] ⟨[(0, resV Xs)], σ1.h⟩ = ⟨[(0, X)], h⟩ ∧ Le X r ∧ ownAll h = true
  | _, _ => False

theorem finH_of {P : Program} {fn : Func} {r : AV} {h : List (Nat × GE)} {σ : AS} {e : Exit} (he : e = .normal ∨ e = .ret) {σ1 : AS} {Xs : List AV} {X : AV} (hs : Sub σ.den σ1.den) (hr : resVL P σ1.den fn.results.toList = some Xs) (hp : prune [0] ⟨[(0, resV Xs)], σ1.h⟩ = ⟨[(0, X)], h⟩) (hle : Le X r) (hown : ownAll h = true) : FinH P fn r h e σ.den := by
  rcases he with rfl | rfl <;> exact ⟨σ1, Xs, X, hs, hr, hp, hle, hown⟩

theorem retH_of_run {P : Program} {W : World} {f : FuncId} {fn : Func} {c : Code} {args : List AV} {r : AV} {h' : List (Nat × GE)} (hf : P.funcs[f]? = some fn) (hb : fn.body = some c) (hN : args.length ≤ fn.ntmps)
    (h : RUN P W fn.ntmps [.code c] (FinH P fn r h') (st0 args)) : RetH P W f args r h' := by
  intro β D I w vs hw hI hR
  refine calls_of_wp hf hb ?_
  have hg : Env.good W ⟨fn.ntmps, w, I, fun _ => False⟩ := ⟨hw, fun b h => h.elim⟩
  have hr := rep0 (N := fn.ntmps) hI hR hN
  refine wp_mono (h _ hg rfl _ w ⟨β, I, hr⟩) fun e a' w' ⟨σ', hk, hrep⟩ => ?_
  have fin : FinH P fn r h' .normal σ' → a'.defers = [] ∧ ∃ v, (results fn a'.tmps).run P w' = .ok v w' ∧ ∃ β' I' v', Ending.returned v = .returned v' ∧ R β' (dom (Go.Ab.hg h')) I' w'.heap true r v' ∧ Inv β' I' (Go.Ab.hg h') w'.heap ∧ Ext I I' w w' ∧
      (∀ k g, Go.Ab.hg h' k = some g → Backed (β' k) g → w.heap.size ≤ (β' k).b) := by
    rintro ⟨σ1, Xs, X, h1, h2, h3, h4, h5⟩
    obtain ⟨β1, I1, r1⟩ := h1 _ _ _ hrep
    obtain ⟨v, hv, hRv⟩ := results_run (P := P) r1 h2
    have q : Rep ⟨1, w, I, fun _ => False⟩ (AS.mk [(0, resV Xs)] σ1.h).den { tmps := #[v], defers := [] } w' :=
      ⟨β1, I1, fun i => by
        show R β1 _ I1 w'.heap true (tg [(0, resV Xs)] i) _
        cases i with
        | zero => exact hRv
        | succ i => exact .top _ _, r1.inv, ⟨r1.fr.size, r1.fr.os, r1.fr.tape, r1.fr.output, r1.fr.old, r1.fr.i0, r1.fr.i1, r1.fr.mt⟩, rfl, rfl⟩
    have q2 := sub_prune [0] _ _ _ _ q
    rw [h3] at q2
    obtain ⟨β', I', r'⟩ := q2
    have hR : R β' (dom (Go.Ab.hg h')) I' w'.heap true X v := r'.tmps 0
    refine ⟨r1.defers, v, hv, β', I', v, rfl, h4.R hR, r'.inv, ext_of_fr (N := 1) ⟨r'.fr.size, r'.fr.os, r'.fr.tape, r'.fr.output, r'.fr.old, r'.fr.i0, r'.fr.i1, r'.fr.mt⟩ r'.inv.imm, fun k g hk hb => ?_⟩
    have hst := ownAll_spec h5 _ (hg_mem hk)
    have hst2 : g.st ≠ .frz := by
      have e : g.st = .own := hst
      rw [e]; exact fun h => by cases h
    exact (r'.fr.mt k g hk hb hst2).resolve_right id
  cases e with
  | normal => exact fin hk
  | ret => exact fin hk
  | _ => exact hk.elim

end Go.Ab

/- What is proved: named arrays may be frozen behind a region, before a loop, at the end. No condition. -/
namespace Go.Ab
open Go

def pickO (n : Nat) (l : List (Nat × GE)) : Option GE → List (Nat × GE)
  | some (.arr e m els .own) => (n, .arr e m els .own) :: l
  | _ => l

/-- The arrays of one's own among the names. -/
def pickF : List Nat → List (Nat × GE) → List (Nat × GE)
  | [], _ => []
  | n :: ns, h => pickO n (pickF ns h) (hg h n)

theorem pickF_spec : ∀ (ns : List Nat) (h : List (Nat × GE)), ∀ p ∈ pickF ns h, hg h p.1 = some p.2 ∧ Frzable p.2
  | [], _, p, hp => by cases hp
  | n :: ns, h, p, hp => by
    simp only [pickF] at hp
    unfold pickO at hp
    split at hp
    · rename_i e m els hh
      rcases List.mem_cons.1 hp with rfl | hp
      · exact ⟨hh, by simp [Frzable]⟩
      · exact pickF_spec ns h p hp
    · exact pickF_spec ns h p hp

def frzS (ns : List Nat) (σ : AS) : AS := σ.frz (pickF ns σ.h)

theorem sub_frzS (ns : List Nat) (σ : AS) : Sub σ.den (frzS ns σ).den := sub_frzA _ (pickF_spec ns σ.h)

/-- Made smaller, frozen, made smaller again. -/
def fprune (ns ks : List Nat) (σ : AS) : AS := prune ks (frzS ns (prune ks σ))

theorem sub_fprune (ns ks : List Nat) (σ : AS) : Sub σ.den (fprune ns ks σ).den := (sub_prune ks σ).trans ((sub_frzS ns _).trans (sub_prune ks _))

section
variable {P : Program} {W : World} {N : Nat} {k : List It} {Q : Exit → SS → Prop} {σ : AS} {ops : Array Oper} {id : Nat}

theorem run_regDF (ns ks : List Nat) (hd : dstAll N ops.toList = true) (hm : P.follows .mixedOrders = true) (he : edgesOk ops.toList 0 = true)
    (h : ∀ F : AS → Prop, (∀ σ' : AS, RUN P W N k Q (fprune ns ks σ').den → F σ') → aops P W ops.toList true ops.toList σ [] F) : RUN P W N (.code (.region id ops true) :: k) Q σ.den :=
  run_reg (fprune ns ks) (sub_fprune ns ks) hd (fun _ => ⟨hm, he⟩) h
end

section
variable {P : Program} {W : World} {draw : Bool} {k : Kt} {σ : AS} {fs : List Foot} {F : AS → Prop} {ex rt : List Nat} {f : FuncId} {As args : List AV} {dst : Option Nat}

/-- A call to which arrays of one's own are handed: numbers and texts come back. -/
theorem aCall_flatF (ns : List Nat) {r : AV} (hc : Pure P W f args r) (hf : callable P f = true) (hle : LeL (clL (pickF ns σ.h) As) args) (hcl : cloL args = true) (hfl : r.flt = true)
    (h : k (σ.up ⟨dst, r, []⟩) (addF draw ⟨ex ++ rt, dN dst, (pickF ns σ.h).map (·.1), []⟩ fs) F) : aCall P W draw k σ fs F ex f As rt dst :=
  aCall_flat (pickF ns σ.h) hc hf (fun p hp => (pickF_spec ns σ.h p hp).2) (fun p hp => (pickF_spec ns σ.h p hp).1) hle hcl hfl h

end

/-- The end, some arrays frozen. -/
theorem fin_ofF {P : Program} {fn : Func} {r : AV} {σ : AS} {e : Exit} (he : e = .normal ∨ e = .ret) (ns : List Nat) {Xs : List AV} (hr : resVL P σ.den fn.results.toList = some Xs) (hle : Le (clA (pickF ns σ.h) (resV Xs)) r) (hc : r.clo = true) :
    FinP P fn r e σ.den := fin_of he (pickF ns σ.h) (pickF_spec ns σ.h) hr hle hc

/-- The end of what hands back new memory: some arrays frozen, the rest made smaller. -/
theorem finH_ofF {P : Program} {fn : Func} {r : AV} {h : List (Nat × GE)} {σ : AS} {e : Exit} (he : e = .normal ∨ e = .ret) (ns : List Nat) {Xs : List AV} {X : AV} (hr : resVL P (frzS ns σ).den fn.results.toList = some Xs) (hp : prune [0] ⟨[(0, resV Xs)], (frzS ns σ).h⟩ = ⟨[(0, X)], h⟩) (hle : Le X r) (hown : ownAll h = true) : FinH P fn r h e σ.den :=
  finH_of he (sub_frzS ns σ) hr hp hle hown

end Go.Ab

/- What is proved: ways that part may meet again. No condition. -/
namespace Go.Ab
open Go

section
variable {P : Program} {W : World} {N : Nat} {k : List It} {Q : Exit → SS → Prop} {σ : AS} {ops : Array Oper} {id : Nat}

/-- A region whose ways meet again: S, one state for each index. -/
theorem run_regJ {ι : Type} {draw : Bool} (ks : List Nat) (S : ι → AS) (ok : ι → Prop) (hd : dstAll N ops.toList = true) (hdr : draw = true → P.follows .mixedOrders = true ∧ edgesOk ops.toList 0 = true)
    (h : ∀ F : AS → Prop, (∀ σ' : AS, (∃ i, ok i ∧ prune ks σ' = S i) → F σ') → aops P W ops.toList draw ops.toList σ [] F) (hk : ∀ i, ok i → RUN P W N k Q (S i).den) : RUN P W N (.code (.region id ops draw) :: k) Q σ.den :=
  run_reg (prune ks) (sub_prune ks) hd hdr fun F hF => h F fun σ' ⟨i, h1, h2⟩ => hF σ' (by rw [h2]; exact hk i h1)

theorem run_regJS {ι : Type} (ks : List Nat) (S : ι → AS) (ok : ι → Prop) (hd : dstAll N ops.toList = true)
    (h : ∀ F : AS → Prop, (∀ σ' : AS, (∃ i, ok i ∧ prune ks σ' = S i) → F σ') → aops P W ops.toList false ops.toList σ [] F) (hk : ∀ i, ok i → RUN P W N k Q (S i).den) : RUN P W N (.code (.region id ops false) :: k) Q σ.den :=
  run_regJ ks S ok hd (by simp) h hk

end

end Go.Ab

/- What is proved: what an argument reads as, as an abstract value. No condition. -/
namespace Go.Ab
open Go Go.RowKit

section
variable {H : Type} {enc : TypeId × Value → H} {P : Program} {w : World} {held : Bool}

/-- A datum of the type t, within the reach, is an abstract value of the kind K. -/
def RdF (enc : TypeId × Value → H) (P : Program) (w : World) (held : Bool) (n : Nat) (t : TypeId) (K : AV → Prop) : Prop :=
  ∀ (cs : List Value) (d : DataW H) (ps : List MemPlace), DataW.trod enc P w 0 (fun _ => true) held n t cs = some (d, ps) → (∀ z ∈ d.weights P t, z ≤ reachBytes) →
    ∃ a, K a ∧ a.clo = true ∧ (∀ (β : Nat → Plc) (D : Nat → Prop), RL β D (fun b => b < w.heap.size) w.heap false a.flat cs) ∧ a.flat.length = P.cellsOf t ∧ cellsOne cs

def IsStr (a : AV) : Prop := ∃ s : List UInt8, a = .str s ∧ s.length ≤ reachBytes
def IsSl (P : Program) (e : TypeId) (K : AV → Prop) (a : AV) : Prop := ∃ els : List AV, a = .sl (P.cellsOf e) els [] ∧ (∀ x ∈ els, K x) ∧ els.length * P.bytesOf e ≤ reachBytes

theorem rd_str {n : Nat} {t : TypeId} (ht : P.underlying t = some .string) (hc : P.cellsOf t = 1) : RdF enc P w held n t IsStr := by
  intro cs d ps h hz
  obtain ⟨s, rfl, hx, _⟩ := DataW.trod_string ht h
  simp only [Prod.mk.injEq] at hx
  obtain ⟨rfl, _⟩ := hx
  have hl := hz s.data.toList.length (by simp [DataW.weights])
  refine ⟨.str s.data.toList, ⟨_, rfl, hl⟩, rfl, fun _ _ => .cons ?_ (.nil _), by rw [hc]; rfl, fun v hv => by simp at hv; subst hv; rfl⟩
  have : s = ⟨s.data.toList.toArray⟩ := by rw [Array.toArray_toList]
  rw [this]
  exact .str _ _

theorem add_block (a : Addr) (j : Nat) : (a.add j).block = a.block := by unfold Addr.add; split <;> rfl
theorem add_off (a : Addr) (j : Nat) : (a.add j).off = a.off + j := by unfold Addr.add; split <;> simp_all
theorem add_spot {a : Addr} (h : a.spot = none) (j : Nat) : (a.add j).spot = none := by unfold Addr.add; split <;> simp_all
theorem add_zero (a : Addr) : a.add 0 = a := by unfold Addr.add; rw [if_pos rfl]

theorem cells_arr {a : Addr} {n : Nat} {cs : List Value} (h : w.cells? 0 a n = some cs) (hn : 0 < n) :
    ∃ arr T fz, w.heap[a.block]? = some (.cells arr T fz) ∧ a.spot = none := by
  obtain ⟨_, hl, hc⟩ := World.cells?_some h
  have h0 := hc 0 hn
  have hx : ∃ v, cs[0]? = some v := ⟨cs[0], by simp⟩
  obtain ⟨v, hv⟩ := hx
  rw [hv] at h0
  unfold World.cell? at h0
  split at h0
  · rename_i c T fz hb
    split at h0
    · cases h0
    · rename_i hs
      rw [add_zero] at hb hs
      exact ⟨c, T, fz, hb, by simpa using hs⟩
  · cases h0

theorem cells_get {a : Addr} {n : Nat} {cs : List Value} (h : w.cells? 0 a n = some cs) {arr : Array Value} {T : TypeId} {fz : Nat × Nat} (hb : w.heap[a.block]? = some (.cells arr T fz)) (hs : a.spot = none) :
    cs.length = n ∧ ∀ (j : Nat) (v : Value), cs[j]? = some v → arr[a.off + j]? = some v := by
  obtain ⟨_, hl, hc⟩ := World.cells?_some h
  refine ⟨hl, fun j v hv => ?_⟩
  have hj : j < n := by have := (List.getElem?_eq_some_iff.1 hv).1; omega
  have := hc j hj
  rw [hv] at this
  unfold World.cell? at this
  rw [add_block, hb] at this
  simp only [add_spot hs, add_off] at this
  simpa using this

/-- The elements ahead of m, read. -/
theorem rd_els {n : Nat} {e : TypeId} {K : AV → Prop} (hK : RdF enc P w held n e K) {a : Addr} {len : Nat} {elems : List (DataW H × List MemPlace)} {arr : Array Value} {T : TypeId} {fz : Nat × Nat}
    (hb : w.heap[a.block]? = some (.cells arr T fz)) (hs : a.spot = none) (hlen : elems.length = len)
    (hel : ∀ i, i < len → (w.cells? 0 (a.add (i * P.cellsOf e)) (P.cellsOf e)).bind (DataW.trod enc P w 0 (fun _ => true) held n e) = elems[i]?)
    (hz : ∀ x ∈ elems, ∀ z ∈ x.1.weights P e, z ≤ reachBytes) : ∀ m, m ≤ len → ∃ (els : List AV) (vs : List Value), els.length = m ∧ (∀ x ∈ els, K x) ∧ (∀ x ∈ els, x.flat.length = P.cellsOf e) ∧
      (∀ (β : Nat → Plc) (D : Nat → Prop), RL β D (fun b => b < w.heap.size) w.heap false (flats els) vs) ∧ vs.length = m * P.cellsOf e ∧ cellsOne vs ∧ ∀ (j : Nat) (v : Value), vs[j]? = some v → arr[a.off + j]? = some v
  | 0, _ => ⟨[], [], rfl, by simp, by simp, fun _ _ => .nil _, by simp, (by intro v hv; cases hv), by simp⟩
  | m + 1, hm => by
    obtain ⟨els, vs, h1, h2, h3, h4, h5, h6, h7⟩ := rd_els hK hb hs hlen hel hz m (by omega)
    have he := hel m (by omega)
    have hx : elems[m]? = some (elems[m]'(by omega)) := by simp
    rw [hx] at he
    obtain ⟨cs, hc1, hc2⟩ := Option.bind_eq_some_iff.1 he
    obtain ⟨A, k1, kc, k2, k3, k4⟩ := hK cs _ _ hc2 (hz _ (List.getElem_mem _))
    obtain ⟨g1, g2⟩ := cells_get hc1 (arr := arr) (T := T) (fz := fz) (by rw [add_block]; exact hb) (add_spot hs _)
    refine ⟨els ++ [A], vs ++ cs, by simp [h1], ?_, ?_, fun β D => ?_, by simp [h5, g1, Nat.add_mul], ?_, ?_⟩
    · intro x hx
      rcases List.mem_append.1 hx with hx | hx
      · exact h2 x hx
      · rw [List.mem_singleton] at hx; subst hx; exact k1
    · intro x hx
      rcases List.mem_append.1 hx with hx | hx
      · exact h3 x hx
      · rw [List.mem_singleton] at hx; subst hx; exact k3
    · rw [flats_append]
      refine (h4 β D).append ?_
      simpa [flats] using k2 β D
    · intro v hv
      rcases List.mem_append.1 hv with hv | hv
      · exact h6 v hv
      · exact k4 v hv
    · intro j v hv
      rcases Nat.lt_or_ge j vs.length with hj | hj
      · rw [List.getElem?_append_left hj] at hv; exact h7 j v hv
      · rw [List.getElem?_append_right hj] at hv
        have := g2 _ v hv
        rw [add_off, h5] at this
        rwa [show a.off + m * P.cellsOf e + (j - m * P.cellsOf e) = a.off + j by omega] at this

theorem weightsAll_mem {e : TypeId} : ∀ {l : List (DataW H)} {x : DataW H}, x ∈ l → ∀ z ∈ x.weights P e, z ∈ DataW.weightsAll P e l
  | [], _, h, _, _ => by cases h
  | y :: l, x, h, z, hz => by
    simp only [DataW.weightsAll, List.mem_append]
    rcases List.mem_cons.1 h with rfl | h
    · exact .inl hz
    · exact .inr (weightsAll_mem h z hz)

theorem rd_slice {n : Nat} {t e : TypeId} {K : AV → Prop} (ht : P.underlying t = some (.slice e)) (hc : P.cellsOf t = 1) (he : 0 < P.cellsOf e) (hK : ∀ m, m < n → RdF enc P w held m e K) : RdF enc P w held n t (IsSl P e K) := by
  intro cs d ps h hz
  rcases DataW.trod_slice ht h with ⟨rfl, hx⟩ | ⟨a, len, cap, elems, rest, m, hn, rfl, hx, hba, hlc, hcm, hlen, hel, hsp, _⟩
  · exact ⟨.sl (P.cellsOf e) [] [], ⟨[], rfl, by simp, by simp⟩, rfl, fun _ _ => .cons .sl0 (.nil _), by rw [hc]; rfl, fun v hv => by simp at hv; subst hv; rfl⟩
  · subst hn
    simp only [Prod.mk.injEq] at hx
    obtain ⟨rfl, _⟩ := hx
    obtain ⟨hrl, hr⟩ := hsp rfl
    have hw : ∀ z, z ∈ (DataW.slice (elems.map (·.1)) (rest.map (·.1)) : DataW H).weights P t ↔ z = ((elems.map (·.1)).length + (rest.map (·.1)).length) * P.bytesOf e ∨ z ∈ DataW.weightsAll P e (elems.map (·.1)) ∨ z ∈ DataW.weightsAll P e (rest.map (·.1)) := by
      intro z; simp only [DataW.weights, ht, List.mem_cons, List.mem_append]
    have hbd := hz _ ((hw _).2 (.inl rfl))
    have hzz : ∀ x ∈ elems, ∀ z ∈ x.1.weights P e, z ≤ reachBytes := fun x hx z hzx => hz z ((hw z).2 (.inr (.inl (weightsAll_mem (List.mem_map.2 ⟨x, hx, rfl⟩) z hzx))))
    rcases Nat.eq_zero_or_pos cap with hc0 | hc0
    · have hl0 : len = 0 := by omega
      subst hl0 hc0
      exact ⟨.sl (P.cellsOf e) [] [], ⟨[], rfl, by simp, by simp⟩, rfl, fun _ _ => .cons .sl0 (.nil _), by rw [hc]; rfl, fun v hv => by simp at hv; subst hv; rfl⟩
    · have hfirst : ∃ cs0, w.cells? 0 (a.add 0) (P.cellsOf e) = some cs0 := by
        rcases Nat.eq_zero_or_pos len with hl0 | hl0
        · have h1 := hr 0 (by omega)
          have h2 : rest[0]? = some (rest[0]'(by omega)) := by simp
          rw [h2] at h1
          obtain ⟨cs0, h3, _⟩ := Option.bind_eq_some_iff.1 h1
          exact ⟨cs0, by simpa [hl0] using h3⟩
        · have h1 := hel 0 hl0
          have h2 : elems[0]? = some (elems[0]'(by omega)) := by simp
          rw [h2] at h1
          obtain ⟨cs0, h3, _⟩ := Option.bind_eq_some_iff.1 h1
          exact ⟨cs0, by simpa using h3⟩
      obtain ⟨cs0, hf⟩ := hfirst
      obtain ⟨arr, T, fz, hb, hs⟩ := cells_arr hf he
      rw [add_zero] at hb hs
      have hb' : w.heap[a.block]? = some (.cells arr T fz) := hb
      have hs' : a.spot = none := hs
      obtain ⟨els, vs, h1, h2, h3, h4, h5, h6, h7⟩ := rd_els (hK m (by omega)) hb' hs' hlen hel hzz len (Nat.le_refl _)
      refine ⟨.sl (P.cellsOf e) els [], ⟨els, rfl, h2, ?_⟩, rfl, fun β D => .cons ?_ (.nil _), by rw [hc]; rfl, fun v hv => by simp at hv; subst hv; rfl⟩
      · simp only [List.length_map] at hbd
        rw [h1]
        exact Nat.le_trans (Nat.mul_le_mul_right _ (by omega)) hbd
      · have hblk : a.block < w.heap.size := (Array.getElem?_eq_some_iff.1 hb').1
        have h4' := h4 β D
        rw [← h1]
        exact .sl vs hblk hs' hb' h3 (by simp) (by simp; omega) hcm (by simpa [flats] using h4') h6 h7

/-- An argument. -/
theorem rd_arg {t : TypeId} {K : AV → Prop} (hK : ∀ n, RdF enc P w held n t K) {v : Value} {d : DataW H} {ps : List MemPlace} (h : DataW.Trod enc P w 0 (fun _ => true) held t v d ps) (hz : ∀ z ∈ d.weights P t, z ≤ reachBytes)
    (hv : v.cells.toList.length = 1 ∧ (∀ cs, v ≠ .agg cs)) (hna : ∀ a, K a → a.isAgg = false) : ∃ a, K a ∧ a.clo = true ∧ ∀ (β : Nat → Plc) (D : Nat → Prop), R β D (fun b => b < w.heap.size) w.heap false a v := by
  obtain ⟨n, hn⟩ := h
  obtain ⟨a, h1, hc, h2, h3, _⟩ := hK n _ _ _ hn hz
  refine ⟨a, h1, hc, fun β D => ?_⟩
  have := h2 β D
  rw [AV.flat_notAgg (hna a h1)] at this
  have e : v.cells = #[v] := by
    cases v <;> first | rfl | exact absurd rfl (hv.2 _)
  rw [e] at this
  cases this with
  | cons k1 _ => exact k1

end

end Go.Ab

/- What is proved: a nil slice in a variable may be read as an empty array of one's own; frozen arrays read with what lies behind a slice's end. No condition. -/
namespace Go.Ab
open Go

/-- Frozen, and what lies behind the end is known. -/
def clR (fs : List (Nat × GE)) : AV → AV
  | .gs k i len =>
    match lk fs k with
    | some (.arr _ n els _) => if i + len ≤ els.length then .sl n ((els.drop i).take len) (els.drop (i + len)) else .gs k i len
    | _ => .gs k i len
  | a => a

section
variable {E : Env} {σ : SS} {a : Act} {w : World} {β : Nat → Plc} {I : Nat → Prop} {fs : List (Nat × GE)}

theorem R_clR (r : RepAt E σ a w β I) (hfs : ∀ p ∈ fs, σ.h p.1 = some (frzGE p.2) ∧ Frzable p.2) {m : Bool} {x : AV} {v : Value} (hR : R β (dom σ.h) I w.heap m x v) : R β (dom σ.h) I w.heap m (clR fs x) v := by
  cases x with
  | gs k i len =>
    cases hR with
    | @gs _ _ _ cap base d1 d2 d3 d4 =>
      simp only [clR]
      cases h : lk fs k with
      | none => exact .gs d1 d2 d3 d4
      | some g =>
        obtain ⟨h1, h2⟩ := hfs _ (lk_mem h)
        cases g with
        | box el s => exact h2.elim
        | arr e n els s =>
          simp only
          split
          case isFalse => exact .gs d1 d2 d3 d4
          case isTrue hle =>
            simp only [frzGE] at h1
            obtain ⟨g1, g2, g3, g4⟩ := r.inv.ge k _ h1
            have hlen : ((els.drop i).take len).length = len := by simp; omega
            have hall : ∀ x ∈ els.drop (i + len), x.flat.length = n := fun x hx => g3 x (List.mem_of_mem_drop hx)
            have dropnil : i * (β k).n = (β k).z → els.drop i = [] := fun hz0 => by
              rcases g4 with ⟨hz, he⟩ | ⟨hz, vs, g5, g6, g7, g8, g9, g10, _⟩
              · subst he; simp
              · rw [g1] at hz0
                have : els.length ≤ i := by
                  have h3 : els.length * n ≤ i * n := by omega
                  exact Nat.le_of_mul_le_mul_right h3 g2
                exact List.drop_of_length_le this
            rcases d4 with ⟨d4, d5⟩ | ⟨d4, d5⟩
            · subst d4
              have hl0 : len = 0 := by omega
              subst hl0
              rw [Nat.add_zero, dropnil d5, List.take_nil]
              exact .sl0
            · rcases g4 with ⟨hz, he⟩ | ⟨hz, vs, g5, g6, g7, g8, g9, g10, _⟩
              · subst he
                simp only [List.length_nil] at hle
                have hl0 : len = 0 := by omega
                subst hl0
                rw [hz] at d5
                have hc0 : cap = 0 := by
                  rcases Nat.mul_eq_zero.1 d5 with h | h
                  · omega
                  · rw [g1] at h; omega
                subst hc0
                simp only [List.drop_nil, List.take_nil]; exact .sl0
              · rw [g1] at d4 d5
                rw [d4]
                conv => rhs; rw [← hlen]
                have hcap : (els.drop i).length ≤ cap := by
                  have h3 : els.length * n ≤ (i + cap) * n := by omega
                  have := Nat.le_of_mul_le_mul_right h3 g2
                  simp; omega
                have hsplit : (els.drop i).take len ++ els.drop (i + len) = els.drop i := by rw [← List.drop_drop]; exact List.take_append_drop _ _
                refine .sl ((vs.toList.take (els.length * n)).drop (i * n)) (g10 rfl) rfl g5 (fun x hx => g3 x (List.mem_of_mem_drop (List.mem_of_mem_take hx))) hall ?_ d3 ?_ ?_ ?_
                · rw [← List.length_append, hsplit]; exact hcap
                · rw [← flats_append, hsplit]
                  have := g8.drop (i * n)
                  rwa [flats_drop _ _ g3] at this
                · exact fun u hu => g9 u (List.mem_of_mem_drop hu)
                · intro j u hu
                  rw [List.getElem?_drop, List.getElem?_take] at hu
                  split at hu
                  · simpa using hu
                  · cases hu
  | _ => exact hR
end

theorem pure_of_retHR {P : Program} {W : World} {f : FuncId} {args : List AV} {r r' : AV} {h' : List (Nat × GE)} (hc : RetH P W f args r h') (hf : Frzall h') (hon : once h' = true) (hle : Le (clR h' r) r') (hcl : r'.clo = true) : Pure P W f args r' := by
  intro β D I w vs hw hI hR
  refine (hc β D I w vs hw hI hR).mono fun e w' ⟨β', I', v, h1, h2, h3, h4, h5⟩ => ?_
  have hlk : ∀ (l : List (Nat × GE)) (k : Nat), lk l k = hg l k := by
    intro l
    induction l with
    | nil => intro k; rfl
    | cons p l ih => intro k; obtain ⟨i, g⟩ := p; simp only [lk, hg, ih]
  have hin : ∀ (l : List (Nat × GE)), once l = true → ∀ p ∈ l, hg l p.1 = some p.2 := by
    intro l
    induction l with
    | nil => intro _ p hp; cases hp
    | cons q l ih =>
      intro ho p hp
      obtain ⟨i, g⟩ := q
      simp only [once, Bool.and_eq_true, Option.isNone_iff_eq_none] at ho
      simp only [hg]
      rcases List.mem_cons.1 hp with rfl | hp
      · simp
      · have := ih ho.2 p hp
        by_cases e : i = p.1
        · subst e; rw [hlk] at ho; rw [ho.1] at this; cases this
        · rw [if_neg e]; exact this
  have rep : RepAt ⟨0, w, I, fun _ => False⟩ ⟨fun _ => .top, hg h'⟩ { tmps := #[], defers := [] } w' β' I' :=
    ⟨fun i => .top _ _, h3, ⟨h4.size, h4.os, h4.tape, h4.output, fun b hb _ => h4.heap b hb, h4.sub, fun b hb hlt => .inl ((h4.new b hb).2 hlt), fun k g hk hb hs => .inl (h5 k g hk hb)⟩, rfl, rfl⟩
  have hfs : ∀ p ∈ h', hg h' p.1 = some p.2 ∧ Frzable p.2 := fun p hp => ⟨hin h' hon p hp, hf p hp⟩
  have r2 := rep.freeze hfs
  have hR2 := h2.keep (β' := β') (D' := dom (frzH (hg h') h')) (I' := fun b => I' b ∨ ∃ p ∈ h', (β' p.1).z ≠ 0 ∧ (β' p.1).b = b) (H' := w'.heap) ⟨fun i hi => ⟨by
      simp only [dom, frzH]
      split
      · rfl
      · exact hi, rfl⟩, fun b hb => ⟨.inl hb, rfl⟩⟩
  exact ⟨_, v, h1, ((hle.R (R_clR r2 (frz_at hfs) hR2)).clo hcl).closed (fun b hb => ⟨hb, rfl⟩) rfl false, ext_of_fr r2.fr r2.inv.imm⟩

/-- A nil slice in a variable may be read as an empty array of one's own. -/
theorem sub_phantomB {σ : AS} (k c d n : Nat) (e : TypeId) {cs : List AV} (hd : hg σ.h d = none) (hn : 0 < n) (hk : hg σ.h k = some (.box (.agg cs) .own)) (hc : cs[c]? = some (.val (.slice none 0 0))) :
    Sub σ.den (AS.mk σ.t (hs (hs σ.h d (.arr e n [] .own)) k (.box (.agg (cs.set c (.gs d 0 0))) .own))).den := by
  rintro E a w ⟨β, I, r⟩
  have hdk : k ≠ d := fun e => by rw [e, hd] at hk; cases hk
  have r2 := r.phantom (dst := none) (X := .top) (v := undef) (d := d) (e := e) hd hn (fun _ h => by cases h) (.top _ _)
  have hden : (AS.mk σ.t (hs (hs σ.h d (.arr e n [] .own)) k (.box (.agg (cs.set c (.gs d 0 0))) .own))).den = ⟨σ.den.t, fun i => if i = k then some (.box (.agg (cs.set c (.gs d 0 0))) .own) else hput σ.den.h d (some (.arr e n [] .own)) i⟩ := by
    simp only [AS.den]
    congr 1
    funext i
    rw [hg_hs, hg_hs]
    rfl
  rw [hden]
  have hkd : hput σ.den.h d (some (.arr e n [] .own)) k = some (.box (.agg cs) .own) := by rw [hput_ne _ _ hdk]; exact hk
  have hdom : dom (fun i => if i = k then some (GE.box (.agg (cs.set c (.gs d 0 0))) .own) else hput σ.den.h d (some (.arr e n [] .own)) i) = dom (hput σ.den.h d (some (.arr e n [] .own))) := by
    funext i
    simp only [dom]
    by_cases ei : i = k
    · subst ei; rw [if_pos rfl, hkd]; rfl
    · rw [if_neg ei]
  have back : ∀ i g, (if i = k then some (GE.box (.agg (cs.set c (.gs d 0 0))) .own) else hput σ.den.h d (some (.arr e n [] .own)) i) = some g → ∃ g0, hput σ.den.h d (some (.arr e n [] .own)) i = some g0 ∧ g.st = g0.st ∧ (∀ p, Backed p g ↔ Backed p g0) ∧ (∀ g', Compat g0 g' → Compat g g') ∧ (∀ g', Compat g' g0 → Compat g' g) := fun i g hi => by
    by_cases ei : i = k
    · subst ei
      rw [if_pos rfl] at hi; cases hi
      exact ⟨_, hkd, rfl, fun p => Iff.rfl, fun g' h => h.elim, fun g' h => by cases g' <;> first | exact h.elim | (simp [Compat] at h)⟩
    · rw [if_neg ei] at hi
      exact ⟨g, hi, rfl, fun p => Iff.rfl, fun g' h => h, fun g' h => h⟩
  refine ⟨bset β d ⟨0, n, 0⟩, I, fun j => ?_, ⟨fun i g hi => ?_, r2.inv.imm, ?_⟩, ?_, r2.size, r2.defers⟩
  · have := r2.tmps j
    show R _ (dom fun i => if i = k then some (GE.box (.agg (cs.set c (.gs d 0 0))) .own) else hput σ.den.h d (some (.arr e n [] .own)) i) _ _ _ _ _
    rw [hdom]
    exact this
  · show GEok _ (dom fun i => if i = k then some (GE.box (.agg (cs.set c (.gs d 0 0))) .own) else hput σ.den.h d (some (.arr e n [] .own)) i) _ _ _ _
    rw [hdom]
    simp only at hi
    by_cases ei : i = k
    · subst ei
      rw [if_pos rfl] at hi; cases hi
      obtain ⟨vs, T, q1, q2, q3, q4, q5, q6⟩ := r2.inv.ge i _ hkd
      refine ⟨vs, T, q1, q2, ?_, q4, q5, q6⟩
      have q3' : RL _ _ _ _ _ cs vs.toList := q3
      obtain ⟨v, hv, hR⟩ := q3'.get' c _ hc
      have hvv := hR.val_inv
      have hset : vs.toList.set c v = vs.toList := by
        apply List.ext_getElem?; intro j
        rw [List.getElem?_set]
        split
        · rename_i e1; subst e1
          split
          · exact hv.symm
          · rename_i hl; rw [List.getElem?_eq_none (by omega)]
        · rfl
      have := q3'.set c (a := .gs d 0 0) (v := v) (by
        subst hvv
        exact .gs (by simp only [dom, hput_same, Option.isSome_some]) (Nat.le_refl _) (by unfold maxLen; simp) (.inl ⟨rfl, by rw [bset_same]; simp⟩))
      rw [hset] at this
      exact this
    · rw [if_neg ei] at hi
      exact r2.inv.ge i g hi
  · intro i i' g g' hne h1 h2 b1 b2 hb
    obtain ⟨g0, p1, _, p3, p4, _⟩ := back i g h1
    obtain ⟨g0', q1, _, q3, _, q5⟩ := back i' g' h2
    exact q5 g (p4 g0' (r2.inv.sep i i' g0 g0' hne p1 q1 ((p3 _).1 b1) ((q3 _).1 b2) hb))
  · obtain ⟨f1, f2, f3, f4, f5, f6, f7, f8⟩ := r2.fr
    refine ⟨f1, f2, f3, f4, f5, f6, f7, fun i g hi hb hs => ?_⟩
    obtain ⟨g0, p1, p2, p3, _, _⟩ := back i g hi
    exact f8 i g0 p1 ((p3 _).1 hb) (by rw [← p2]; exact hs)

/-- The end, nil read as an empty array. -/
theorem finH_ofN {P : Program} {fn : Func} {r : AV} {h : List (Nat × GE)} {σ : AS} {e : Exit} (he : e = .normal ∨ e = .ret) (i d n : Nat) (t : TypeId) (hd : hg σ.h d = none) (hn : 0 < n) (hi : tg σ.t i = .val (.slice none 0 0)) {Xs : List AV} {X : AV}
    (hr : resVL P (AS.mk (ts σ.t i (.gs d 0 0)) (hs σ.h d (.arr t n [] .own))).den fn.results.toList = some Xs) (hp : prune [0] ⟨[(0, resV Xs)], (hs σ.h d (.arr t n [] .own))⟩ = ⟨[(0, X)], h⟩) (hle : Le X r) (hown : ownAll h = true) : FinH P fn r h e σ.den :=
  finH_of he (sub_phantomA i d n t hd hn hi) hr hp hle hown

end Go.Ab

/- What is proved: the values of a document, as abstract values. -/
namespace Go.Ab
open Go

structure JH where
  kind : Int
  int : Int
  text : List UInt8
  names : List (List UInt8)

inductive JV where
  | mk (h : JH) (items : List JV)

instance : Inhabited JV := ⟨.mk ⟨0, 0, [], []⟩ []⟩

def JV.hd : JV → JH | .mk h _ => h
def JV.items : JV → List JV | .mk _ l => l
def JV.kind (j : JV) : Int := j.hd.kind
def JV.int (j : JV) : Int := j.hd.int
def JV.text (j : JV) : List UInt8 := j.hd.text
def JV.names (j : JV) : List (List UInt8) := j.hd.names

def iA (n : Int) : AV := .val (.int .i64 n)
def bA (b : Bool) : AV := .val (.bool b)
mutual
def encV : JV → AV
  | .mk h l => .agg [.val (.int .i64 h.kind), .val (.int .i64 h.int), .str h.text, .sl 1 (h.names.map AV.str) [], .sl 5 (encVs l) []]
def encVs : List JV → List AV
  | [] => []
  | j :: l => encV j :: encVs l
end

theorem encVs_map : ∀ l : List JV, encVs l = l.map encV
  | [] => rfl
  | j :: l => by simp only [encVs, List.map_cons, encVs_map l]

theorem encV_eq (j : JV) : encV j = .agg [.val (.int .i64 j.kind), .val (.int .i64 j.int), .str j.text, .sl 1 (j.names.map AV.str) [], .sl 5 (j.items.map encV) []] := by
  cases j; simp only [encV, encVs_map, JV.kind, JV.int, JV.text, JV.names, JV.items, JV.hd]

theorem encV_flat (j : JV) : (encV j).flat = [.val (.int .i64 j.kind), .val (.int .i64 j.int), .str j.text, .sl 1 (j.names.map AV.str) [], .sl 5 (j.items.map encV) []] := by rw [encV_eq]; rfl
theorem encV_isAgg (j : JV) : (encV j).isAgg = true := by rw [encV_eq]; rfl

theorem nmsL_str (l : List (List UInt8)) : nmsL (l.map AV.str) = [] := by
  induction l with
  | nil => rfl
  | cons x l ih => simp only [List.map_cons, nmsL, nms, ih, List.append_nil]
theorem renL_str (x y : Nat) (l : List (List UInt8)) : renL x y (l.map AV.str) = l.map AV.str := by
  induction l with
  | nil => rfl
  | cons a l ih => simp only [List.map_cons, renL, ren, ih]
theorem encV_nms (j : JV) : nms (encV j) = [] := by rw [encV_eq]; rfl
theorem encV_ren (x y : Nat) (j : JV) : ren x y (encV j) = encV j := by rw [encV_eq]; rfl
theorem encV_clo (j : JV) : (encV j).clo = true := by rw [encV_eq]; rfl
theorem encV_sto (j : JV) : (encV j).sto = true := by rw [encV_eq]; rfl
theorem nmsL_encV (l : List JV) : nmsL (l.map encV) = [] := by
  induction l with
  | nil => rfl
  | cons x l ih => simp only [List.map_cons, nmsL, encV_nms, ih, List.append_nil]
theorem renL_encV (x y : Nat) (l : List JV) : renL x y (l.map encV) = l.map encV := by
  induction l with
  | nil => rfl
  | cons a l ih => simp only [List.map_cons, renL, encV_ren, ih]
theorem encV_clA (fs : List (Nat × GE)) (j : JV) : clA fs (encV j) = encV j := by rw [encV_eq]; simp only [clA, clL]
theorem encV_renF (φ : Nat → Nat) (j : JV) : renF φ (encV j) = encV j := by rw [encV_eq]; simp only [renF, renFL]
theorem encV_mk (h : JH) (l : List JV) : encV (.mk h l) = .agg [.val (.int .i64 h.kind), .val (.int .i64 h.int), .str h.text, .sl 1 (h.names.map AV.str) [], .sl 5 (l.map encV) []] := by rw [encV_eq]; rfl
def JV.zero : JV := .mk ⟨0, 0, [], []⟩ []
theorem le_zero : Le (.agg [.val (.int .i64 0), .val (.int .i64 0), .str [], .val (.slice none 0 0), .val (.slice none 0 0)]) (encV JV.zero) := by
  rw [JV.zero, encV_mk]
  exact .agg (.cons (.refl _) (.cons (.refl _) (.cons (.refl _) (.cons (.nil 1) (.cons (.nil 5) .nil)))))
theorem le_add0 (a : Int) : (a ≤ a + ((0 : Nat) : Int)) = True := by simp
theorem take_map_len {α β : Type} (f : α → β) (l : List α) : (l.map f).take l.length = l.map f := List.take_of_length_le (by simp)
theorem drop_map_len {α β : Type} (f : α → β) (l : List α) : (l.map f).drop l.length = [] := List.drop_of_length_le (by simp)
theorem ge0_len1 (n : Nat) : (0 ≤ ((n + 1 : Nat) : Int)) = True := by simp only [eq_iff_iff, iff_true]; omega
theorem one_le_len1 (n : Nat) : (1 ≤ ((n + 1 : Nat) : Int)) = True := by simp only [eq_iff_iff, iff_true]; omega

attribute [go_sem] iA bA aops_cons aops_nil aO aG aB_tt aB_ff aB_tf aB_ft aB_un dstOf aK_eff aK_req aK_ite aK_call out argT evL evC tg ts hg hs AS.up tsO hsL oV oVo oVv addF_false addF_true frN oBox oAlloc avL oAgg oBuild oBuildSlice oMakeSlice oStoreB oStoreE oStoreA oStore srcG srcO oAppG oApp oCopyG oCopy oBuiltin oMin oMax oLoadB oLoadE oLoadA oLoad oFieldAddr fieldV oIndexE oIndexG oIndexAddr oPick oExtract oBin isC oUn oCv oStrB oConv oByte oIndex oLen bI oSliceG oSlice defLen ldV stV binV strV fillA setAll flat_agg isAgg_agg sto_agg flat_top isAgg_top sto_top one_top flat_val isAgg_val sto_val one_val flat_str isAgg_str sto_str one_str flat_tup isAgg_tup sto_tup one_tup flat_sl isAgg_sl sto_sl one_sl flat_ip isAgg_ip sto_ip one_ip flat_gp isAgg_gp sto_gp one_gp flat_ge isAgg_ge sto_ge one_ge flat_gs isAgg_gs sto_gs one_gs flat_fn isAgg_fn sto_fn one_fn flat_ifc isAgg_ifc sto_ifc one_ifc oneCell_int oneCell_bool oneCell_slice AV.clo cloL encV_flat encV_isAgg encV_sto encV_clo fullParts Bool.false_eq_true Bool.true_eq_false false_imp_iff forall_false true_and and_true false_and and_false imp_false not_true_eq_false not_false_eq_true decide_true decide_false true_or or_true false_or or_false Nat.le_refl forall_const ne_eq cond_true cond_false eq_self Bool.not_true Bool.not_false pickF pickO renF renFL renG rn encV_renF List.map_cons List.map_nil List.flatMap_cons List.flatMap_nil List.length_cons List.length_nil List.append_nil List.nil_append List.cons_append List.all_cons List.all_nil List.getElem?_cons_zero List.getElem?_cons_succ List.length_map List.length_append List.set_cons_zero List.set_cons_succ List.drop_zero List.take_zero List.drop_succ_cons List.take_succ_cons List.drop_nil List.take_nil Bool.and_true Bool.true_and Bool.and_false Bool.false_and Bool.and_self Bool.and_eq_true Option.bind_some Option.bind_none Option.isSome_some Option.isSome_none Option.some.injEq and_self rdN dN Option.toList prune prune2 keepT memN keepH nmsT nms nmsL encV_nms nmsL_encV nmsL_str clsd liveAll gesN normA noSld ownL ownGE renAll renB renO renT renH ren renL encV_ren renL_encV renL_str renGE geNms fprune frzS AS.frz clT clA clL lk frzL frzG clGE frzGE encV_clA le_add0 take_map_len drop_map_len one_le_len1 Nat.zero_add Nat.add_zero

end Go.Ab

