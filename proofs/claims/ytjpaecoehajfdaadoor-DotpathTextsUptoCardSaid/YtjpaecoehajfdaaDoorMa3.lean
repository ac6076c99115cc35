/- What is proved: code, and the operations of a region, reckoned. No condition beyond those that each theorem names. -/
import Derived.Test.YtjpaecoehajfdaaDoorMa2
import Derived.Lib.ConvBytes
set_option linter.all false
/- What is proved: the rules of a walk over code, in the abstract; how a contract is had from a walk. No condition. -/
namespace Go.Ab
open Go

/-- What is left to do. -/
inductive It where
  | code (c : Code)
  | blk (id : Nat)
  | chk (R : SS → Prop)

def Kof (P : Program) (E : Env) (Q : Exit → SS → Prop) : List It → Exit → SS → Prop
  | [], e, σ => Q e σ
  | .code c :: k, e, σ =>
    match e with
    | .normal => ∀ a w, Rep E σ a w → c.wp P (fun e a' w' => ∃ σ', Kof P E Q k e σ' ∧ Rep E σ' a' w') a w
    | e => Kof P E Q k e σ
  | .blk id :: k, e, σ =>
    match e with
    | .exit id' => if id' = id then Kof P E Q k .normal σ else Kof P E Q k (.exit id') σ
    | e => Kof P E Q k e σ
  | .chk R :: k, e, σ =>
    match e with
    | .normal => R σ
    | e => Kof P E Q k e σ

/-- Carried out from the state σ, what is left to do comes to an end that meets Q. -/
def RUN (P : Program) (W : World) (N : Nat) (todo : List It) (Q : Exit → SS → Prop) (σ : SS) : Prop :=
  ∀ E : Env, E.good W → E.N = N → Kof P E Q todo .normal σ

section
variable {P : Program} {W : World} {N : Nat} {Q : Exit → SS → Prop} {σ : SS} {k : List It}

theorem run_seq {x y : Code} (h : RUN P W N (.code x :: .code y :: k) Q σ) : RUN P W N (.code (.seq x y) :: k) Q σ := by
  intro E g hN a w hr
  refine wp_seq (wp_mono (h E g hN a w hr) fun e a' w' ⟨σ', hk, hr'⟩ => ?_)
  cases e <;> first | exact hk a' w' hr' | exact ⟨σ', hk, hr'⟩

theorem run_block {id : Nat} {c : Code} (h : RUN P W N (.code c :: .blk id :: k) Q σ) : RUN P W N (.code (.block id c) :: k) Q σ := by
  intro E g hN a w hr
  refine wp_block (wp_mono (h E g hN a w hr) fun e a' w' ⟨σ', hk, hr'⟩ => ?_)
  cases e <;> first
    | exact ⟨σ', hk, hr'⟩
    | (simp only [Exit.inBlock]; simp only [Kof] at hk; split at hk
       · rename_i hid; rw [if_pos hid]; exact ⟨σ', hk, hr'⟩
       · rename_i hid; rw [if_neg hid]; exact ⟨σ', hk, hr'⟩)

theorem run_skip (h : RUN P W N k Q σ) : RUN P W N (.code .skip :: k) Q σ := fun E g hN a w hr => wp_skip ⟨σ, h E g hN, hr⟩
theorem run_blk {id : Nat} (h : RUN P W N k Q σ) : RUN P W N (.blk id :: k) Q σ := fun E g hN => h E g hN
theorem run_chk {R : SS → Prop} (h : R σ) : RUN P W N (.chk R :: k) Q σ := fun E g hN => h

theorem Kof_ret {E : Env} : ∀ k : List It, Q .ret σ → Kof P E Q k .ret σ
  | [], h => h
  | .code c :: k, h => Kof_ret k h
  | .blk id :: k, h => Kof_ret k h
  | .chk R :: k, h => Kof_ret k h

theorem run_ret (h : Q .ret σ) : RUN P W N (.code .ret :: k) Q σ := fun E g hN a w hr => wp_ret ⟨σ, Kof_ret k h, hr⟩

def popTo (id : Nat) : List It → Option (List It)
  | [] => none
  | .blk i :: k => if id = i then some k else popTo id k
  | .code _ :: k => popTo id k
  | .chk _ :: k => popTo id k

theorem Kof_exit {E : Env} {id : Nat} : ∀ (k k' : List It), popTo id k = some k' → Kof P E Q k' .normal σ → Kof P E Q k (.exit id) σ
  | [], _, h, _ => by cases h
  | .code c :: k, k', h, hk => Kof_exit k k' h hk
  | .chk R :: k, k', h, hk => Kof_exit k k' h hk
  | .blk i :: k, k', h, hk => by
    simp only [popTo] at h
    simp only [Kof]
    split at h
    · rename_i e; rw [if_pos e]; cases h; exact hk
    · rename_i e; rw [if_neg e]; exact Kof_exit k k' h hk

theorem run_exit {id : Nat} {k' : List It} (hp : popTo id k = some k') (h : RUN P W N k' Q σ) : RUN P W N (.code (.exit id) :: k) Q σ :=
  fun E g hN a w hr => wp_exit ⟨σ, Kof_exit k k' hp (h E g hN), hr⟩

theorem run_cond {c : Operand} {x y : Code} {b : Bool} (hc : evA σ.t c = .val (.bool b)) (h1 : b = true → RUN P W N (.code x :: k) Q σ) (h2 : b = false → RUN P W N (.code y :: k) Q σ) :
    RUN P W N (.code (.cond c x y) :: k) Q σ := by
  intro E g hN a w hr
  obtain ⟨β, I, r⟩ := hr
  have hv := (R_ev r hc).val_inv
  exact wp_cond_split hv (fun e => h1 e E g hN a w ⟨β, I, r⟩) (fun e => h2 e E g hN a w ⟨β, I, r⟩)

theorem wp_loop_in {c : Code} {Q : Exit → Act → World → Prop} {a : Act} {w : World} (I : Nat → Act → World → Prop) (n : Nat) (h₀ : I n a w)
    (round : ∀ n a w, I n a w → c.wp P (Exit.then (fun a' w' => ∃ m, m < n ∧ I m a' w') Q) a w) : (Code.loop c).wp P Q a w := by
  intro b k cs
  have key : ∀ n a w, I n a w → ∃ e a' w', Q e a' w' ∧ Arrives P (lone (b.at a (.code c :: .inLoop c :: k)) cs w) b k cs e a' w' := by
    intro n
    induction n using Nat.strongRecOn with
    | _ n ih =>
      intro a w hI
      obtain ⟨e, a₁, w₁, hq, harr⟩ := round n a w hI b (.inLoop c :: k) cs
      cases e with
      | normal =>
        obtain ⟨m, hlt, hI₁⟩ := hq
        obtain ⟨e₂, a₂, w₂, hq₂, harr₂⟩ := ih m hlt a₁ w₁ hI₁
        exact ⟨e₂, a₂, w₂, hq₂, .of_steps (Steps.trans harr (.one step_inLoop)) harr₂⟩
      | exit id => exact ⟨_, a₁, w₁, hq, .pass (x := .inLoop c) rfl (fun _ _ => .inl (by simp)) harr⟩
      | goto l => exact ⟨_, a₁, w₁, hq, .pass (x := .inLoop c) rfl (fun _ _ => .inl (by simp)) harr⟩
      | ret => exact ⟨_, a₁, w₁, hq, .pass (x := .inLoop c) rfl (fun _ _ => .inl (by simp)) harr⟩
      | panic ch => exact ⟨_, a₁, w₁, hq, .pass (x := .inLoop c) rfl (fun _ _ => .inl (by simp)) harr⟩
      | outgrown => exact ⟨_, a₁, w₁, hq, .pass (x := .inLoop c) rfl (fun _ _ => .inl (by simp)) harr⟩
  obtain ⟨e, a', w', hq, harr⟩ := key n a w h₀
  exact ⟨e, a', w', hq, .of_steps (.one step_loop) harr⟩

/-- A loop: what holds at the head of each round, and what every round lowers. -/
theorem run_loop {c : Code} (Inv : Nat → SS → Prop) (n : Nat) (h0 : Inv n σ) (hr : ∀ n σ, Inv n σ → RUN P W N (.code c :: .chk (fun σ' => ∃ m, m < n ∧ Inv m σ') :: k) Q σ) :
    RUN P W N (.code (.loop c) :: k) Q σ := by
  intro E g hN a w hra
  refine wp_loop_in (fun n a w => ∃ σ, Inv n σ ∧ Rep E σ a w) n ⟨σ, h0, hra⟩ fun n a w ⟨σ, hi, hra⟩ => ?_
  refine wp_mono (hr n σ hi E g hN a w hra) fun e a' w' ⟨σ', hk, hr'⟩ => ?_
  cases e with
  | normal => obtain ⟨m, hlt, hm⟩ := hk; exact ⟨m, hlt, σ', hm, hr'⟩
  | _ => exact ⟨σ', hk, hr'⟩

/-- Whatever σ stands for, σ' stands for too. -/
def Sub (σ σ' : SS) : Prop := ∀ E a w, Rep E σ a w → Rep E σ' a w

theorem run_sub {σ' : SS} {c : Code} (hs : Sub σ σ') (h : RUN P W N (.code c :: k) Q σ') : RUN P W N (.code c :: k) Q σ :=
  fun E g hN a w hr => h E g hN a w (hs E a w hr)

end

/-! ### From a walk to a contract -/

def ldT (P : Program) (T : TypeId) (el : AV) (c : Nat) : Option AV :=
  match P.underlying T, P.info? T with
  | some d, some i => ldV (descAgg d) i.size el c
  | _, _ => none

def resV1 (P : Program) (σ : SS) : ResultVar → Option AV
  | .tmp t => some (σ.t t)
  | .cell a T =>
    match σ.t a with
    | .gp k c => match σ.h k with | some (.box el _) => ldT P T el c | _ => none
    | _ => none

def resVL (P : Program) (σ : SS) : List ResultVar → Option (List AV)
  | [] => some []
  | r :: l => match resV1 P σ r, resVL P σ l with | some x, some xs => some (x :: xs) | _, _ => none

def fetch (tmps : Array Value) : ResultVar → Sem Value
  | .tmp t => pure (tmps.getD t undef)
  | .cell ad t => do loadVar t (← asAddr (tmps.getD ad undef))

def resV (l : List AV) : AV := match l with | [x] => x | l => .tup l

section
variable {P : Program} {E : Env} {σ : SS} {a : Act} {w : World} {β : Nat → Plc} {I : Nat → Prop}

theorem resV1_run (r : RepAt E σ a w β I) {q : ResultVar} {X : AV} (h : resV1 P σ q = some X) :
    ∃ v, (fetch a.tmps q).run P w = .ok v w ∧ R β (dom σ.h) I w.heap true X v := by
  cases q with
  | tmp t => simp only [resV1, Option.some.injEq] at h; subst h; exact ⟨_, rfl, r.tmps t⟩
  | cell ad T =>
    simp only [resV1] at h
    have h0 := r.tmps ad
    split at h
    case h_2 => cases h
    rename_i k c hk
    rw [hk] at h0
    split at h
    case h_2 => cases h
    rename_i el st hb
    unfold ldT at h
    split at h
    case h_2 => cases h
    rename_i d i hd hi
    obtain ⟨vs, U, g1, g2, g3, g4, _⟩ := r.inv.ge k _ hb
    generalize hv : a.tmps.getD ad undef = v at h0
    cases h0 with
    | gp dk =>
      obtain ⟨u, h1, h2⟩ := ld_run (P := P) (w := w) (b := (β k).b) (p := 0) hd hi h g3 (fun j v hv => by rw [cell_of_cells g2, Nat.zero_add]; simpa using hv)
      rw [Nat.zero_add] at h1
      refine ⟨u, by simp only [fetch, hv, Sem.run_bind, asAddr, Sem.run_pure, Result.andThen_ok, h1], ?_⟩
      cases hs : decide (st ≠ .frz) with
      | true => rw [hs] at h2; exact h2
      | false => rw [hs] at h2; exact h2.closed (fun b hb => ⟨hb, rfl⟩) rfl true

theorem resVL_run (r : RepAt E σ a w β I) : ∀ {l : List ResultVar} {Xs : List AV}, resVL P σ l = some Xs →
    ∃ vs : List Value, (l.mapM (fetch a.tmps)).run P w = .ok vs w ∧ RL β (dom σ.h) I w.heap true Xs vs
  | [], _, h => by simp only [resVL, Option.some.injEq] at h; subst h; exact ⟨[], by simp, .nil _⟩
  | q :: l, Xs, h => by
    simp only [resVL] at h
    cases h1 : resV1 P σ q with
    | none => rw [h1] at h; cases h
    | some X =>
      cases h2 : resVL P σ l with
      | none => rw [h1, h2] at h; cases h
      | some Ys =>
        rw [h1, h2] at h; cases h
        obtain ⟨v, hv, hR⟩ := resV1_run r h1
        obtain ⟨vs, hvs, hRs⟩ := resVL_run r h2
        refine ⟨v :: vs, ?_, .cons hR hRs⟩
        rw [List.mapM_cons]
        simp only [Sem.run_bind, hv, Result.andThen_ok, hvs, Sem.run_pure]

theorem results_run (r : RepAt E σ a w β I) {fn : Func} {Xs : List AV} (h : resVL P σ fn.results.toList = some Xs) : ∃ v, (results fn a.tmps).run P w = .ok v w ∧ R β (dom σ.h) I w.heap true (resV Xs) v := by
  obtain ⟨vs, hvs, hR⟩ := resVL_run (P := P) r h
  have hm : (fn.results.mapM (fetch a.tmps)).run P w = .ok vs.toArray w := by
    rw [Array.mapM_eq_mapM_toList]
    simp only [← bind_pure_comp, Sem.run_bind, hvs, Result.andThen_ok, Sem.run_pure]
  refine ⟨if hh : vs.toArray.size = 1 then vs.toArray[0] else .tuple vs.toArray, ?_, ?_⟩
  · have hfun : results fn a.tmps = (do let vs ← fn.results.mapM (fetch a.tmps); pure (if h : vs.size = 1 then vs[0] else .tuple vs)) := by
      unfold results
      congr 1
    rw [hfun]
    simp only [Sem.run_bind, hm, Result.andThen_ok, Sem.run_pure]
  · match Xs, vs, hR with
    | [], [], _ => exact .tup (.nil _)
    | [X], [v], .cons h1 _ => exact h1
    | X :: Y :: Xs, v :: u :: vs, h => simp [resV]; exact .tup h

end

/-- What a walk owes at its end: what it hands back reads as r, when the arrays in fs are frozen. -/
def FinP (P : Program) (fn : Func) (r : AV) : Exit → SS → Prop
  | .normal, σ | .ret, σ => ∃ fs Xs, (∀ p ∈ fs, σ.h p.1 = some p.2 ∧ Frzable p.2) ∧ resVL P σ fn.results.toList = some Xs ∧ Le (clA fs (resV Xs)) r ∧ r.clo = true
  | _, _ => False

def st0 (args : List AV) : SS := ⟨fun i => (args[i]?).getD .top, fun _ => none⟩

theorem rep0 {β : Nat → Plc} {D I : Nat → Prop} {w : World} {vs : List Value} {args : List AV} {N : Nat} (hI : ∀ b, I b → b < w.heap.size) (hR : RL β D I w.heap false args vs) (hN : args.length ≤ N) :
    RepAt ⟨N, w, I, fun _ => False⟩ (st0 args) { tmps := vs.toArray ++ Array.replicate (N - vs.toArray.size) undef, defers := [] } w β I := by
  have hl := hR.length
  refine ⟨fun i => ?_, ⟨(fun k g h => by cases h), hI, (fun _ _ _ _ _ h => by cases h)⟩, ⟨Nat.le_refl _, rfl, rfl, rfl, (fun _ _ _ => rfl), (fun _ h => h), (fun _ h _ => .inl h), (fun _ _ h => by cases h)⟩, by simp; omega, rfl⟩
  simp only [st0]
  cases ha : args[i]? with
  | none => exact .top _ _
  | some A =>
    obtain ⟨v, hv, hr⟩ := hR.get' i A ha
    have hlt : i < vs.length := (List.getElem?_eq_some_iff.1 hv).1
    have : (vs.toArray ++ Array.replicate (N - vs.toArray.size) undef).getD i undef = v := by
      rw [Array.getD_eq_getD_getElem?, Array.getElem?_append_left (by simpa using hlt)]
      simp [hv]
    rw [this]
    exact hr.closed (fun b hb => ⟨hb, rfl⟩) rfl true

theorem ext_of_fr {N : Nat} {w w' : World} {I I' : Nat → Prop} {β : Nat → Plc} {h : Nat → Option GE} (f : Fr ⟨N, w, I, fun _ => False⟩ β I' h w') (hi : ∀ b, I' b → b < w'.heap.size) : Ext I I' w w' :=
  ⟨fun b hb => f.old b hb id, f.size, f.os, f.tape, f.output, f.i0, fun b hb => ⟨hi b hb, fun hlt => (f.i1 b hb hlt).resolve_right id⟩⟩

/-- A CONTRACT FROM A WALK. -/
theorem pure_of_run {P : Program} {W : World} {f : FuncId} {fn : Func} {c : Code} {args : List AV} {r : AV} (hf : P.funcs[f]? = some fn) (hb : fn.body = some c) (hN : args.length ≤ fn.ntmps)
    (h : RUN P W fn.ntmps [.code c] (FinP P fn r) (st0 args)) : Pure P W f args r := by
  intro β D I w vs hw hI hR
  refine calls_of_wp hf hb ?_
  have hg : Env.good W ⟨fn.ntmps, w, I, fun _ => False⟩ := ⟨hw, fun b h => h.elim⟩
  have hr := rep0 (N := fn.ntmps) hI hR hN
  refine wp_mono (h _ hg rfl _ w ⟨β, I, hr⟩) fun e a' w' ⟨σ', hk, β', I', r'⟩ => ?_
  have fin : FinP P fn r .normal σ' → a'.defers = [] ∧ ∃ v, (results fn a'.tmps).run P w' = .ok v w' ∧ ∃ I'' v', Ending.returned v = .returned v' ∧ R β D I'' w'.heap false r v' ∧ Ext I I'' w w' := by
    rintro ⟨fs, Xs, h1, h2, h3, h4⟩
    obtain ⟨v, hv, hRv⟩ := results_run (P := P) r' h2
    have r2 := r'.freeze h1
    refine ⟨r'.defers, v, hv, _, v, rfl, ?_, ext_of_fr r2.fr r2.inv.imm⟩
    have hR2 : R β' (dom (frzH σ'.h fs)) (fun b => I' b ∨ ∃ p ∈ fs, (β' p.1).z ≠ 0 ∧ (β' p.1).b = b) w'.heap true (resV Xs) v := hRv.keep ⟨fun i hi => ⟨by
      simp only [dom, frzH]
      split
      · rfl
      · exact hi, rfl⟩, fun b hb => ⟨.inl hb, rfl⟩⟩
    have hfs2 : ∀ p ∈ fs, (⟨σ'.t, frzH σ'.h fs⟩ : SS).h p.1 = some (frzGE p.2) ∧ Frzable p.2 := fun p hp => by
      refine ⟨?_, (h1 p hp).2⟩
      show frzH σ'.h fs p.1 = _
      unfold frzH
      cases hl : lk fs p.1 with
      | none =>
        exfalso
        have : ∀ l : List (Nat × GE), p ∈ l → lk l p.1 ≠ none := by
          intro l
          induction l with
          | nil => intro h; cases h
          | cons q l ih =>
            intro hq
            obtain ⟨i', g'⟩ := q
            simp only [lk]
            split
            · simp
            · rename_i hne
              rcases List.mem_cons.1 hq with rfl | hq
              · exact absurd rfl hne
              · exact ih hq
        exact this fs hp hl
      | some g =>
        have := (h1 _ (lk_mem hl)).1
        rw [(h1 p hp).1] at this
        cases this
        rfl
    exact ((h3.R (R_clA r2 hfs2 hR2)).clo h4).closed (fun b hb => ⟨hb, rfl⟩) rfl false
  cases e with
  | normal => exact fin hk
  | ret => exact fin hk
  | _ => exact hk.elim

end Go.Ab

/- What is proved: steps that turn no memory: slots and names are let go, a name is turned, an array that nobody shares is one's own again. No condition. -/
namespace Go.Ab
open Go

mutual
def nms : AV → List Nat
  | .gp k _ => [k]
  | .ge k _ _ => [k]
  | .gs k _ _ => [k]
  | .agg cs => nmsL cs
  | .tup cs => nmsL cs
  | .fn _ xs ys => nmsL xs ++ nmsL ys
  | .ifc _ x => nms x
  | _ => []
def nmsL : List AV → List Nat
  | [] => []
  | a :: l => nms a ++ nmsL l
end

mutual
def ren (x y : Nat) : AV → AV
  | .gp k c => .gp (if k = x then y else k) c
  | .ge k i c => .ge (if k = x then y else k) i c
  | .gs k i len => .gs (if k = x then y else k) i len
  | .agg cs => .agg (renL x y cs)
  | .tup cs => .tup (renL x y cs)
  | .fn f xs ys => .fn f (renL x y xs) (renL x y ys)
  | .ifc t a => .ifc t (ren x y a)
  | .top => .top
  | .val v => .val v
  | .str l => .str l
  | .sl n els rest => .sl n els rest
  | .ip el c => .ip el c
def renL (x y : Nat) : List AV → List AV
  | [] => []
  | a :: l => ren x y a :: renL x y l
end

section
variable {β β' : Nat → Plc} {D D' I : Nat → Prop} {H : Array Obj}
mutual
theorem R.dom : ∀ {m a v}, R β D I H m a v → (∀ n ∈ nms a, D' n) → R β D' I H m a v
  | _, _, _, .top m v, _ => .top m v
  | _, _, _, .val m v, _ => .val m v
  | _, _, _, .str m l, _ => .str m l
  | _, _, _, .agg h, e => .agg (RL.dom h (by simpa [nms] using e))
  | _, _, _, .tup h, e => .tup (RL.dom h (by simpa [nms] using e))
  | _, _, _, .sl vs h1 h2 h3 h4 h4' h5 h6 h7 h8 h9, _ => .sl vs h1 h2 h3 h4 h4' h5 h6 (h7.closed (fun b hb => ⟨hb, rfl⟩) rfl false) h8 h9
  | _, _, _, .sl0, _ => .sl0
  | _, _, _, .ip vs h1 h3 h4 h5 h6, _ => .ip vs h1 h3 (h4.closed (fun b hb => ⟨hb, rfl⟩) rfl false) h5 h6
  | _, _, _, .gp h, e => .gp (e _ (by simp [nms]))
  | _, _, _, .ge h, e => .ge (e _ (by simp [nms]))
  | _, _, _, .gs h h1 h2 h3, e => .gs (e _ (by simp [nms])) h1 h2 h3
  | _, _, _, .fn h1 h2, e => .fn (RL.dom h1 (fun n hn => e n (by simp [nms, hn]))) (RL.dom h2 (fun n hn => e n (by simp [nms, hn])))
  | _, _, _, .ifc h, e => .ifc (R.dom h (by simpa [nms] using e))
theorem RL.dom : ∀ {m as vs}, RL β D I H m as vs → (∀ n ∈ nmsL as, D' n) → RL β D' I H m as vs
  | _, _, _, .nil m, _ => .nil m
  | _, _, _, .cons h1 h2, e => .cons (R.dom h1 (fun n hn => e n (by simp [nmsL, hn]))) (RL.dom h2 (fun n hn => e n (by simp [nmsL, hn])))
end

mutual
theorem R.ren {x y : Nat} (K : ∀ k, D k → D' (if k = x then y else k) ∧ β' (if k = x then y else k) = β k) : ∀ {m a v}, R β D I H m a v → R β' D' I H m (ren x y a) v
  | _, _, _, .top m v => .top m v
  | _, _, _, .val m v => .val m v
  | _, _, _, .str m l => .str m l
  | _, _, _, .agg h => .agg (RL.ren K h)
  | _, _, _, .tup h => .tup (RL.ren K h)
  | _, _, _, .sl vs h1 h2 h3 h4 h4' h5 h6 h7 h8 h9 => .sl vs h1 h2 h3 h4 h4' h5 h6 (h7.closed (fun b hb => ⟨hb, rfl⟩) rfl false) h8 h9
  | _, _, _, .sl0 => .sl0
  | _, _, _, .ip vs h1 h3 h4 h5 h6 => .ip vs h1 h3 (h4.closed (fun b hb => ⟨hb, rfl⟩) rfl false) h5 h6
  | _, _, _, .gp h => (K _ h).2 ▸ .gp (K _ h).1
  | _, _, _, .ge h => (K _ h).2 ▸ .ge (K _ h).1
  | _, _, _, .gs h h1 h2 h3 => .gs (K _ h).1 h1 h2 (by rw [(K _ h).2]; exact h3)
  | _, _, _, .fn h1 h2 => .fn (RL.ren K h1) (RL.ren K h2)
  | _, _, _, .ifc h => .ifc (R.ren K h)
theorem RL.ren {x y : Nat} (K : ∀ k, D k → D' (if k = x then y else k) ∧ β' (if k = x then y else k) = β k) : ∀ {m as vs}, RL β D I H m as vs → RL β' D' I H m (renL x y as) vs
  | _, _, _, .nil m => .nil m
  | _, _, _, .cons h1 h2 => .cons (R.ren K h1) (RL.ren K h2)
end
end

theorem ren_flat (x y : Nat) (a : AV) : (ren x y a).flat = renL x y a.flat := by
  cases a <;> simp [ren, AV.flat, renL]

def renGE (x y : Nat) : GE → GE
  | .box el st => .box (ren x y el) st
  | g => g

/-- Slots are let go. -/
theorem sub_tmps {σ : SS} {t' : Nat → AV} (h : ∀ i, t' i = σ.t i ∨ t' i = .top) : Sub σ ⟨t', σ.h⟩ := by
  rintro E a w ⟨β, I, r⟩
  refine ⟨β, I, fun i => ?_, r.inv, r.fr, r.size, r.defers⟩
  rcases h i with e | e
  · show R _ _ _ _ _ (t' i) _; rw [e]; exact r.tmps i
  · show R _ _ _ _ _ (t' i) _; rw [e]; exact .top _ _

def geNms : GE → List Nat
  | .box el _ => nms el
  | .arr _ _ _ _ => []

theorem nmsL_flat (a : AV) : nmsL a.flat = nms a := by
  cases a <;> simp [AV.flat, nmsL, nms]

/-- Names are let go. -/
theorem sub_names {σ : SS} {h' : Nat → Option GE} (hh : ∀ i, h' i = σ.h i ∨ h' i = none) (ht : ∀ i, ∀ n ∈ nms (σ.t i), (h' n).isSome = true) (hb : ∀ i g, h' i = some g → ∀ n ∈ geNms g, (h' n).isSome = true) :
    Sub σ ⟨σ.t, h'⟩ := by
  rintro E a w ⟨β, I, r⟩
  have old : ∀ i g, h' i = some g → σ.h i = some g := fun i g hi => by
    rcases hh i with e | e
    · rw [← e]; exact hi
    · rw [e] at hi; cases hi
  refine ⟨β, I, fun i => (r.tmps i).dom (ht i), ⟨fun i g hi => ?_, r.inv.imm, fun i i' g g' hne h1 h2 => r.inv.sep i i' g g' hne (old i g h1) (old i' g' h2)⟩, ?_, r.size, r.defers⟩
  · have h0 := r.inv.ge i g (old i g hi)
    cases g with
    | box el st =>
      obtain ⟨vs, T, g1, g2, g3, g4, g5, g6⟩ := h0
      exact ⟨vs, T, g1, g2, g3.dom (by rw [nmsL_flat]; exact hb i _ hi), g4, g5, g6⟩
    | arr e n els st =>
      obtain ⟨g1, g2, g3, g4⟩ := h0
      refine ⟨g1, g2, g3, ?_⟩
      rcases g4 with g4 | ⟨g4, vs, g5, g6, g7, g8, g9⟩
      · exact .inl g4
      · exact .inr ⟨g4, vs, g5, g6, g7, g8.closed (fun b hb => ⟨hb, rfl⟩) rfl false, g9⟩
  · obtain ⟨f1, f2, f3, f4, f5, f6, f7, f8⟩ := r.fr
    exact ⟨f1, f2, f3, f4, f5, f6, f7, fun i g hi => f8 i g (old i g hi)⟩

def ownGE : GE → GE
  | .arr e n els .shr => .arr e n els .own
  | g => g

/-- What nobody shares any more is one's own again. -/
theorem sub_own {σ : SS} (hs : ∀ i g, σ.h i = some g → ∀ e n els, g ≠ .arr e n els .sld) : Sub σ ⟨σ.t, fun i => (σ.h i).map ownGE⟩ := by
  rintro E a w ⟨β, I, r⟩
  have back : ∀ i g, (σ.h i).map ownGE = some g → ∃ g0, σ.h i = some g0 ∧ g = ownGE g0 := fun i g hi => by
    cases h : σ.h i with
    | none => rw [h] at hi; cases hi
    | some g0 => rw [h] at hi; cases hi; exact ⟨g0, rfl, rfl⟩
  have K : Keep β β (dom σ.h) (dom fun i => (σ.h i).map ownGE) I I w.heap w.heap := ⟨fun i hi => ⟨by simpa [dom] using hi, rfl⟩, fun b hb => ⟨hb, rfl⟩⟩
  have hback : ∀ i g0, Backed (β i) (ownGE g0) → Backed (β i) g0 := fun i g0 h => by
    cases g0 with
    | box el st => trivial
    | arr e n els st => cases st <;> exact h
  refine ⟨β, I, fun i => (r.tmps i).keep K, ⟨fun i g hi => ?_, r.inv.imm, ?_⟩, ?_, r.size, r.defers⟩
  · obtain ⟨g0, h0, rfl⟩ := back i g hi
    have h1 := (r.inv.ge i g0 h0).keep K rfl (fun _ => rfl) (fun _ => Iff.rfl)
    cases g0 with
    | box el st => exact h1
    | arr e n els st =>
      cases st <;> try exact h1
      obtain ⟨g1, g2, g3, g4⟩ := h1
      refine ⟨g1, g2, g3, ?_⟩
      rcases g4 with g4 | ⟨g4, vs, g5, g6, g7, g8, g9, _, g10⟩
      · exact .inl g4
      · exact .inr ⟨g4, vs, g5, g6, g7, g8, g9, (fun h => by cases h), fun _ => g10 (by simp)⟩
  · intro i i' g g' hne h1 h2 b1 b2 hb
    obtain ⟨g0, q1, rfl⟩ := back i g h1
    obtain ⟨g0', q2, rfl⟩ := back i' g' h2
    have hc := r.inv.sep i i' g0 g0' hne q1 q2 (hback i g0 b1) (hback i' g0' b2) hb
    exfalso
    cases g0 with
    | box el st => simp [Compat] at hc
    | arr e n els st =>
      have n1 := hs i _ q1
      cases g0' with
      | box el st => cases st <;> simp [Compat] at hc
      | arr e' n' els' st' =>
        have n2 := hs i' _ q2
        cases st <;> cases st' <;> first | exact (n1 _ _ _ rfl).elim | exact (n2 _ _ _ rfl).elim | simp [Compat] at hc
  · obtain ⟨f1, f2, f3, f4, f5, f6, f7, f8⟩ := r.fr
    refine ⟨f1, f2, f3, f4, f5, f6, f7, fun i g hi hb hst => ?_⟩
    obtain ⟨g0, q1, rfl⟩ := back i g hi
    refine f8 i g0 q1 (hback i g0 hb) ?_
    cases g0 with
    | box el st => exact hst
    | arr e n els st => cases st <;> first | exact hst | simp [GE.st]

/-- A name is turned into one that is free. -/
theorem sub_ren {σ : SS} {x y : Nat} (hy : σ.h y = none) (hxy : x ≠ y) :
    Sub σ ⟨fun i => ren x y (σ.t i), fun i => if i = y then (σ.h x).map (renGE x y) else if i = x then none else (σ.h i).map (renGE x y)⟩ := by
  rintro E a w ⟨β, I, r⟩
  have hne : ∀ k, (σ.h k).isSome = true → k ≠ y := fun k hk e => by rw [e, hy] at hk; cases hk
  have K : ∀ k, dom σ.h k → dom (fun i => if i = y then (σ.h x).map (renGE x y) else if i = x then none else (σ.h i).map (renGE x y)) (if k = x then y else k) ∧ (bset β y (β x)) (if k = x then y else k) = β k := by
    intro k hk
    by_cases e : k = x
    · subst e
      rw [if_pos rfl]
      refine ⟨?_, by rw [bset_same]⟩
      simp only [dom, if_true]
      simpa using hk
    · rw [if_neg e]
      have := hne k hk
      refine ⟨?_, bset_ne _ _ this⟩
      simp only [dom, if_neg this, if_neg e]
      simpa using hk
  have back : ∀ i g, (if i = y then (σ.h x).map (renGE x y) else if i = x then none else (σ.h i).map (renGE x y)) = some g → ∃ k g0, σ.h k = some g0 ∧ g = renGE x y g0 ∧ i = (if k = x then y else k) ∧ k ≠ y := by
    intro i g hi
    split at hi
    · rename_i e
      cases h : σ.h x with
      | none => rw [h] at hi; cases hi
      | some g0 => rw [h] at hi; cases hi; exact ⟨x, g0, h, rfl, by rw [if_pos rfl]; exact e, hxy⟩
    · rename_i e
      split at hi
      · cases hi
      · rename_i e2
        cases h : σ.h i with
        | none => rw [h] at hi; cases hi
        | some g0 => rw [h] at hi; cases hi; exact ⟨i, g0, h, rfl, by rw [if_neg e2], e⟩
  have hbk : ∀ p g0, Backed p (renGE x y g0) ↔ Backed p g0 := fun p g0 => by cases g0 <;> exact Iff.rfl
  have hst : ∀ g0, (renGE x y g0).st = g0.st := fun g0 => by cases g0 <;> rfl
  have hcomp : ∀ g g', Compat g g' → Compat (renGE x y g) (renGE x y g') := fun g g' h => by
    cases g <;> cases g' <;> first | exact h | simp [Compat] at h
  refine ⟨bset β y (β x), I, fun i => (r.tmps i).ren K, ⟨fun i g hi => ?_, r.inv.imm, ?_⟩, ?_, r.size, r.defers⟩
  · obtain ⟨k, g0, q1, rfl, rfl, _⟩ := back i g hi
    have hk := (K k (by simp only [dom, q1, Option.isSome_some])).2
    have h0 := r.inv.ge k g0 q1
    cases g0 with
    | box el st =>
      obtain ⟨vs, T, g1, g2, g3, g4, g5, g6⟩ := h0
      refine ⟨vs, T, by rw [hk]; exact g1, by rw [hk]; exact g2, ?_, g4, fun e => by rw [hk]; exact g5 e, fun e => by rw [hk]; exact g6 e⟩
      rw [ren_flat]
      exact g3.ren K
    | arr e n els st =>
      obtain ⟨g1, g2, g3, g4⟩ := h0
      refine ⟨by rw [hk]; exact g1, g2, g3, ?_⟩
      rw [hk]
      rcases g4 with g4 | ⟨g4, vs, g5, g6, g7, g8, g9⟩
      · exact .inl g4
      · exact .inr ⟨g4, vs, g5, g6, g7, g8.closed (fun b hb => ⟨hb, rfl⟩) rfl false, g9⟩
  · intro i i' g g' hne' h1 h2 b1 b2 hb
    obtain ⟨k, g0, q1, rfl, rfl, k1⟩ := back i g h1
    obtain ⟨k', g0', q2, rfl, rfl, k2⟩ := back i' g' h2
    have hk := (K k (by simp only [dom, q1, Option.isSome_some])).2
    have hk' := (K k' (by simp only [dom, q2, Option.isSome_some])).2
    rw [hk] at b1 hb
    rw [hk'] at b2 hb
    have hkk : k ≠ k' := fun e => hne' (by rw [e])
    exact hcomp _ _ (r.inv.sep k k' g0 g0' hkk q1 q2 ((hbk _ _).1 b1) ((hbk _ _).1 b2) hb)
  · obtain ⟨f1, f2, f3, f4, f5, f6, f7, f8⟩ := r.fr
    refine ⟨f1, f2, f3, f4, f5, f6, f7, fun i g hi hb hs => ?_⟩
    obtain ⟨k, g0, q1, rfl, rfl, k1⟩ := back i g hi
    have hk := (K k (by simp only [dom, q1, Option.isSome_some])).2
    rw [hk] at hb ⊢
    exact f8 k g0 q1 ((hbk _ _).1 hb) (by rw [← hst g0]; exact hs)

/-- A name for nothing, in the place of nil. -/
theorem sub_phantom {σ : SS} {d n i : Nat} {e : TypeId} (hd : σ.h d = none) (hn : 0 < n) (hi : σ.t i = .val (.slice none 0 0)) :
    Sub σ ⟨tset σ.t (some i) (.gs d 0 0), hput σ.h d (some (.arr e n [] .own))⟩ := by
  rintro E a w ⟨β, I, r⟩
  have hne : ∀ k, (σ.h k).isSome = true → k ≠ d := fun k hk e => by rw [e, hd] at hk; cases hk
  have r2 := r.phantom (dst := none) (X := .top) (v := undef) (e := e) hd hn (fun _ h => by cases h) (.top _ _)
  refine ⟨_, I, fun j => ?_, r2.inv, r2.fr, r2.size, r2.defers⟩
  simp only [tset]
  by_cases ej : j = i
  · subst ej
    rw [if_pos rfl]
    have h0 := r.tmps j
    rw [hi] at h0
    have hv := h0.val_inv
    rw [hv]
    exact .gs (by simp only [dom, hput_same, Option.isSome_some]) (Nat.le_refl _) (by unfold maxLen; simp) (.inl ⟨rfl, by rw [bset_same]; simp⟩)
  · rw [if_neg ej]
    have := r2.tmps j
    exact this

theorem Sub.trans {a b c : SS} (h : Sub a b) (k : Sub b c) : Sub a c := fun E x w hr => k E x w (h E x w hr)
theorem Sub.refl (a : SS) : Sub a a := fun _ _ _ h => h

end Go.Ab

/- What is proved: the operations of a region, reckoned on lists. No condition. -/
namespace Go.Ab
open Go

/-- The abstract state, written out: what is not listed is anything. -/
structure AS where
  t : List (Nat × AV)
  h : List (Nat × GE)

def tg : List (Nat × AV) → Nat → AV
  | [], _ => .top
  | (k, v) :: l, i => if k = i then v else tg l i

def ts : List (Nat × AV) → Nat → AV → List (Nat × AV)
  | [], d, v => [(d, v)]
  | (k, u) :: l, d, v => if d < k then (d, v) :: (k, u) :: l else if d = k then (d, v) :: l else (k, u) :: ts l d v

def hg : List (Nat × GE) → Nat → Option GE
  | [], _ => none
  | (k, g) :: l, i => if k = i then some g else hg l i

def hs : List (Nat × GE) → Nat → GE → List (Nat × GE)
  | [], d, g => [(d, g)]
  | (k, u) :: l, d, g => if d < k then (d, g) :: (k, u) :: l else if d = k then (d, g) :: l else (k, u) :: hs l d g

def AS.den (σ : AS) : SS := ⟨tg σ.t, hg σ.h⟩

theorem tg_ts (d : Nat) (v : AV) : ∀ (l : List (Nat × AV)) (i : Nat), tg (ts l d v) i = if i = d then v else tg l i
  | [], i => by simp only [ts, tg]; by_cases e : d = i <;> simp [e, eq_comm]
  | (k, u) :: l, i => by
    simp only [ts]
    split
    · show (if d = i then v else tg ((k, u) :: l) i) = _
      by_cases e : d = i
      · simp [e]
      · rw [if_neg e, if_neg (fun h => e h.symm)]
    · split
      · rename_i e0; subst e0
        simp only [tg]; by_cases e : d = i
        · simp [e]
        · rw [if_neg e, if_neg (fun h => e h.symm), if_neg e]
      · rename_i e0
        simp only [tg, tg_ts d v l i]
        by_cases e : k = i
        · subst e; rw [if_pos rfl, if_neg (fun h => e0 h.symm), if_pos rfl]
        · rw [if_neg e, if_neg e]

theorem hg_hs (d : Nat) (v : GE) : ∀ (l : List (Nat × GE)) (i : Nat), hg (hs l d v) i = if i = d then some v else hg l i
  | [], i => by simp only [hs, hg]; by_cases e : d = i <;> simp [e, eq_comm]
  | (k, u) :: l, i => by
    simp only [hs]
    split
    · show (if d = i then some v else hg ((k, u) :: l) i) = _
      by_cases e : d = i
      · simp [e]
      · rw [if_neg e, if_neg (fun h => e h.symm)]
    · split
      · rename_i e0; subst e0
        simp only [hg]; by_cases e : d = i
        · simp [e]
        · rw [if_neg e, if_neg (fun h => e h.symm), if_neg e]
      · rename_i e0
        simp only [hg, hg_hs d v l i]
        by_cases e : k = i
        · subst e; rw [if_pos rfl, if_neg (fun h => e0 h.symm), if_pos rfl]
        · rw [if_neg e, if_neg e]

def evL (σ : AS) : Operand → AV
  | .tmp i => tg σ.t i
  | x => evC x

theorem evL_den (σ : AS) (x : Operand) : evA σ.den.t x = evL σ x := by cases x <;> rfl

/-- What a slot, and names, are written with. -/
structure Upd where
  dst : Option Nat
  v : AV
  wh : List (Nat × GE) := []

def tsO (l : List (Nat × AV)) : Option Nat → AV → List (Nat × AV)
  | none, _ => l
  | some d, v => ts l d v

def hsL (l : List (Nat × GE)) : List (Nat × GE) → List (Nat × GE)
  | [] => l
  | (k, g) :: w => hsL (hs l k g) w

def AS.up (σ : AS) (u : Upd) : AS := ⟨tsO σ.t u.dst u.v, hsL σ.h u.wh⟩

theorem hsL_den : ∀ (w l : List (Nat × GE)), hg (hsL l w) = hset (hg l) (w.map fun p => (p.1, some p.2))
  | [], l => rfl
  | (k, g) :: w, l => by
    simp only [hsL, List.map_cons, hset]
    rw [hsL_den w (hs l k g)]
    congr 1
    funext i
    exact hg_hs k g l i

theorem up_den (σ : AS) (u : Upd) (f : Eff) (h1 : f.dst = u.dst) (h2 : f.v = u.v) (h3 : f.wh = u.wh.map fun p => (p.1, some p.2)) : (σ.up u).den = σ.den.upd f := by
  simp only [AS.up, AS.den, SS.upd, h1, h2, h3, hsL_den]
  congr 1
  funext i
  cases u.dst with
  | none => rfl
  | some d => exact tg_ts d u.v σ.t i

/-- What an operation touches: slots that are read and written, names that are read and written. -/
structure Foot where
  rt : List Nat
  wt : List Nat
  rh : List Nat
  wh : List Nat

def footOf (f : Eff) : Foot := ⟨keys f.rt, keys (wT f), keys f.rh, keys f.wh⟩

def touchF (f g : Foot) : Bool :=
  f.wt.any (fun x => g.rt.contains x || g.wt.contains x) || f.rt.any (fun x => g.wt.contains x) || f.wh.any (fun x => g.rh.contains x || g.wh.contains x) || f.rh.any (fun x => g.wh.contains x)

def ordF (A : List (List Nat)) : List Foot → Nat → Bool
  | [], _ => true
  | f :: fs, i => ((List.range fs.length).all fun q => !touchF f (fs.getD q ⟨[], [], [], []⟩) || ((A[i + 1 + q]?).getD []).contains i) && ordF A fs (i + 1)

theorem touch_foot (f g : Eff) : touch f g = touchF (footOf f) (footOf g) := rfl

theorem ordOk_foot (A : List (List Nat)) : ∀ (fs : List Eff) (i : Nat), ordOk A fs i = ordF A (fs.map footOf) i
  | [], _ => rfl
  | f :: fs, i => by
    simp only [ordOk, ordF, List.map_cons, List.length_map, ordOk_foot A fs (i + 1)]
    congr 1
    have h : ∀ q ∈ List.range fs.length, (!touch f (fs.getD q {}) || ((A[i + 1 + q]?).getD []).contains i) = (!touchF (footOf f) ((fs.map footOf).getD q ⟨[], [], [], []⟩) || ((A[i + 1 + q]?).getD []).contains i) := by
      intro q hq
      have hlt : q < fs.length := List.mem_range.1 hq
      simp only [List.getD_eq_getElem?_getD, List.getElem?_map, List.getElem?_eq_getElem hlt, Option.map_some, Option.getD_some, touch_foot]
    rw [Bool.eq_iff_iff, List.all_eq_true, List.all_eq_true]
    exact ⟨fun k q hq => (h q hq) ▸ k q hq, fun k q hq => (h q hq).symm ▸ k q hq⟩

/-- What an operation comes to. -/
inductive Out where
  | eff (u : Upd) (f : Foot)
  | req (p : Prop) (o : Out)
  | ite (b : Bool) (x y : Out)
  | call (f : FuncId) (As : List AV) (rt : List Nat) (dst : Option Nat)
  | fail

def rdN : Operand → List Nat
  | .tmp i => [i]
  | _ => []

def dN : Option Nat → List Nat
  | some d => [d]
  | none => []

/-- A value, and nothing of memory turned. -/
def oV (xs : List Operand) (rh : List Nat) (dst : Option Nat) (v : AV) : Out := .eff ⟨dst, v, []⟩ ⟨xs.flatMap rdN, dN dst, rh, []⟩

/-- An out that holds: for what a state reads as. -/
def OutOK (P : Program) (W : World) (o : Oper) (σ : AS) : Out → Prop
  | .eff u f => ∃ g : Eff, LocalOKW P W o g ∧ Reads σ.den g ∧ footOf g = f ∧ (σ.up u).den = σ.den.upd g ∧ g.dst = o.dst
  | .req p x => p → OutOK P W o σ x
  | .ite b x y => (b = true → OutOK P W o σ x) ∧ (b = false → OutOK P W o σ y)
  | .call f As rt dst => dst = o.dst ∧ ∃ xs ts, o.op = .call { callee := .value (.func f), args := xs, argTypes := ts } ∧ xs.toList.map (evL σ) = As ∧ xs.toList.flatMap rdN = rt
  | .fail => True

theorem keys_rds : ∀ (xs : List (Operand × AV)), keys (rds xs) = (xs.map (·.1)).flatMap rdN
  | [] => rfl
  | (x, X) :: xs => by
    have := keys_rds xs
    simp only [rds, keys] at this ⊢
    simp only [List.flatMap_cons, List.map_append, List.map_cons, this]
    cases x <;> rfl

theorem reads_rds {σ : AS} {xs : List (Operand × AV)} (h : ∀ p ∈ xs, evL σ p.1 = p.2) : ∀ q ∈ rds xs, σ.den.t q.1 = q.2 := by
  intro q hq
  obtain ⟨p, hp, hq⟩ := List.mem_flatMap.1 hq
  have := h p hp
  obtain ⟨x, X⟩ := p
  cases x with
  | tmp i => simp only [rd, List.mem_singleton] at hq; subst hq; exact this
  | _ => simp [rd] at hq

theorem keys_wT (f : Eff) : keys (wT f) = dN f.dst := by unfold wT; cases f.dst <;> rfl

/-- From a rule: an operation that yields a value. -/
theorem outOK_v {P : Program} {W : World} {o : Oper} {σ : AS} (xs : List (Operand × AV)) (rh : List (Nat × Option GE)) {v : AV} {ys : List Operand} {rhN : List Nat} (h : LocalOK P o { rt := rds xs, rh := rh, dst := o.dst, v := v })
    (hx : ∀ p ∈ xs, evL σ p.1 = p.2) (hh : ∀ p ∈ rh, hg σ.h p.1 = p.2) (hy : xs.map (·.1) = ys) (hr : keys rh = rhN) : OutOK P W o σ (oV ys rhN o.dst v) :=
  ⟨_, h.w, ⟨reads_rds hx, hh⟩, by show Foot.mk _ _ _ _ = Foot.mk _ _ _ _; rw [keys_rds, keys_wT, hy, hr]; rfl, up_den _ _ _ rfl rfl rfl, rfl⟩

end Go.Ab

/- What is proved: what each operation comes to, reckoned; that it is so. No condition. -/
namespace Go.Ab
open Go

/-- What the reckoning wants of a type. -/
structure Ty where
  ag : Bool := false
  size : Nat := 0
  bytes : Nat := 0
  z : AV := .top
  okz : Bool := false
  el : Option TypeId := none
  str : Bool := false
  bl : Bool := false
  ifc : Bool := false
  ik : Option IntKind := none
  fo : List (Nat × Nat) := []
  ok : Bool := false

def tyD (P : Program) (d : TypeDesc) (y : Ty) : Ty :=
  match d with
  | .slice e => { y with el := some e }
  | .string => { y with str := true }
  | .bool => { y with bl := true }
  | .interface _ => { y with ifc := true }
  | .int k => { y with ik := some k }
  | .struct fs => { y with ag := true, fo := (fs.toList.mapM fun f => (P.info? f.type).map fun i => (f.offset, i.size)).getD [] }
  | .array _ _ => { y with ag := true }
  | _ => y

def ty (P : Program) (t : TypeId) : Ty :=
  match P.underlying t, P.info? t with
  | some d, some i => tyD P d { size := i.size, bytes := i.bytes, z := (i.zero.map zeroA).getD .top, okz := (i.zero.map fun z => decide (z.cells.size = i.size) && z.cells.toList.all Value.oneCell').getD false, ok := true }
  | _, _ => {}

section
variable {P : Program} {t : TypeId}

theorem ty_ok (h : (ty P t).ok = true) : ∃ d i, P.underlying t = some d ∧ P.info? t = some i ∧ ty P t = tyD P d { size := i.size, bytes := i.bytes, z := (i.zero.map zeroA).getD .top, okz := (i.zero.map fun z => decide (z.cells.size = i.size) && z.cells.toList.all Value.oneCell').getD false, ok := true } := by
  unfold ty at h ⊢
  cases hd : P.underlying t with
  | none => rw [hd] at h; cases h
  | some d =>
    cases hi : P.info? t with
    | none => rw [hd, hi] at h; cases h
    | some i => exact ⟨d, i, rfl, rfl, rfl⟩

theorem tyD_ag {d : TypeDesc} {y : Ty} (hy : y.ag = false) : (tyD P d y).ag = descAgg d := by cases d <;> first | rfl | exact hy
theorem tyD_size {d : TypeDesc} {y : Ty} : (tyD P d y).size = y.size := by cases d <;> rfl
theorem tyD_bytes {d : TypeDesc} {y : Ty} : (tyD P d y).bytes = y.bytes := by cases d <;> rfl
theorem tyD_z {d : TypeDesc} {y : Ty} : (tyD P d y).z = y.z := by cases d <;> rfl
theorem tyD_okz {d : TypeDesc} {y : Ty} : (tyD P d y).okz = y.okz := by cases d <;> rfl

theorem ty_el {e : TypeId} (h : (ty P t).el = some e) : P.underlying t = some (.slice e) := by
  unfold ty at h
  split at h
  · rename_i d i hd hi
    cases d <;> simp [tyD] at h
    subst h; exact hd
  · cases h

theorem ty_str (h : (ty P t).str = true) : P.underlying t = some .string := by
  unfold ty at h
  split at h
  · rename_i d i hd hi
    cases d <;> simp [tyD] at h
    exact hd
  · cases h

theorem ty_bl (h : (ty P t).bl = true) : P.underlying t = some .bool := by
  unfold ty at h
  split at h
  · rename_i d i hd hi
    cases d <;> simp [tyD] at h
    exact hd
  · cases h

theorem ty_ifc (h : (ty P t).ifc = true) : ∃ ms, P.underlying t = some (.interface ms) := by
  unfold ty at h
  split at h
  · rename_i d i hd hi
    cases d <;> simp [tyD] at h
    exact ⟨_, hd⟩
  · cases h

theorem ty_ik {k : IntKind} (h : (ty P t).ik = some k) : P.underlying t = some (.int k) := by
  unfold ty at h
  split at h
  · rename_i d i hd hi
    cases d <;> simp [tyD] at h
    subst h; exact hd
  · cases h

theorem ty_fo {f : Nat} {q : Nat × Nat} (h : (ty P t).fo[f]? = some q) : ∃ fs places, P.underlying t = some (.struct fs) ∧ (fs.toList.mapM fun f => (P.info? f.type).map fun i => (f.offset, i.size)) = some places ∧ (ty P t).fo = places := by
  unfold ty at h ⊢
  split at h
  · rename_i d i hd hi
    cases d <;> simp [tyD] at h
    rename_i fs
    cases hp : fs.toList.mapM (fun f => (P.info? f.type).map fun i => (f.offset, i.size)) with
    | none => rw [hp] at h; simp at h
    | some places => exact ⟨fs, places, hd, hp, by simp [tyD, hp]⟩
  · simp at h

theorem ty_zero (h : (ty P t).okz = true) : ∃ i z, P.info? t = some i ∧ i.zero = some z ∧ z.cells.size = i.size ∧ z.cells.toList.all Value.oneCell' = true ∧ (ty P t).z = zeroA z ∧ (ty P t).size = i.size ∧ (ty P t).bytes = i.bytes := by
  have hok : (ty P t).ok = true := by
    unfold ty at h ⊢
    split at h
    · rename_i d i hd hi; cases d <;> rfl
    · cases h
  obtain ⟨d, i, hd, hi, he⟩ := ty_ok hok
  rw [he, tyD_okz] at h
  cases hz : i.zero with
  | none => rw [hz] at h; cases h
  | some z =>
    rw [hz] at h
    simp only [Option.map_some, Option.getD_some, Bool.and_eq_true, decide_eq_true_eq] at h
    exact ⟨i, z, hi, hz, h.1, h.2, by rw [he, tyD_z, hz]; rfl, by rw [he, tyD_size], by rw [he, tyD_bytes]⟩
end

theorem mapM_get {α β : Type} (f : α → Option β) : ∀ (l : List α) (r : List β), l.mapM f = some r → ∀ (i : Nat) (b : β), r[i]? = some b → ∃ a, l[i]? = some a ∧ f a = some b
  | [], r, h, i, b, hb => by simp at h; subst h; simp at hb
  | x :: l, r, h, i, b, hb => by
    simp only [List.mapM_cons, Option.bind_eq_bind, Option.pure_def] at h
    cases hx : f x with
    | none => rw [hx] at h; simp at h
    | some y =>
      cases hl : l.mapM f with
      | none => rw [hx, hl] at h; simp at h
      | some ys =>
        rw [hx, hl] at h
        simp at h
        subst h
        cases i with
        | zero => simp at hb; subst hb; exact ⟨x, rfl, hx⟩
        | succ i => simp at hb; simpa using mapM_get f l ys hl i b hb

/-! ### The reckoning -/

def oVo (xs : List Operand) (rh : List Nat) (dst : Option Nat) : Option AV → Out
  | some v => oV xs rh dst v
  | none => .fail

def oLoadB (T : Ty) (x : Operand) (dst : Option Nat) (k c : Nat) : Option GE → Out
  | some (.box el _) => oVo [x] [k] dst (ldV T.ag T.size el c)
  | _ => .fail

def oLoadE (T : Ty) (x : Operand) (dst : Option Nat) (k c : Nat) : Option AV → Out
  | some el => oVo [x] [k] dst (ldV T.ag T.size el c)
  | none => .fail

def oLoadA (T : Ty) (x : Operand) (dst : Option Nat) (k i c : Nat) : Option GE → Out
  | some (.arr _ _ els _) => oLoadE T x dst k c (els[i]?)
  | _ => .fail

def oLoad (T : Ty) (σ : AS) (x : Operand) (dst : Option Nat) : AV → Out
  | .gp k c => oLoadB T x dst k c (hg σ.h k)
  | .ip el c => oVo [x] [] dst (ldV T.ag T.size el c)
  | .ge k i c => oLoadA T x dst k i c (hg σ.h k)
  | _ => .fail

theorem oLoad_ok {P : Program} {W : World} {σ : AS} {o : Oper} {x : Operand} {T : TypeId} (ho : o.op = .load T x) (hT : (ty P T).ok = true) : OutOK P W o σ (oLoad (ty P T) σ x o.dst (evL σ x)) := by
  obtain ⟨d, i, hd, hi, he⟩ := ty_ok hT
  have hag : (ty P T).ag = descAgg d := by rw [he, tyD_ag rfl]
  have hsz : (ty P T).size = i.size := by rw [he, tyD_size]
  cases hx : evL σ x <;> simp only [oLoad] <;> try trivial
  case ip el c =>
    cases hX : ldV (ty P T).ag (ty P T).size el c with
    | none => simp only [oVo]; trivial
    | some X =>
      rw [hag, hsz] at hX
      exact outOK_v [(x, .ip el c)] [] (ok_loadIp ho hd hi (by rw [evL_den]; exact hx) hX) (by simpa using hx) (by simp) rfl rfl
  case gp k c =>
    cases hb : hg σ.h k with
    | none => simp only [oLoadB]; trivial
    | some g =>
      cases g with
      | arr e n els st => simp only [oLoadB]; trivial
      | box el st =>
        simp only [oLoadB]
        cases hX : ldV (ty P T).ag (ty P T).size el c with
        | none => simp only [oVo]; trivial
        | some X =>
          rw [hag, hsz] at hX
          exact outOK_v [(x, .gp k c)] [(k, some (.box el st))] (ok_loadBox ho hd hi (by rw [evL_den]; exact hx) hX) (by simpa using hx) (by simpa using hb) rfl rfl
  case ge k j c =>
    cases hb : hg σ.h k with
    | none => simp only [oLoadA]; trivial
    | some g =>
      cases g with
      | box el st => simp only [oLoadA]; trivial
      | arr e n els st =>
        simp only [oLoadA]
        cases hel : els[j]? with
        | none => simp only [oLoadE]; trivial
        | some el =>
          simp only [oLoadE]
          cases hX : ldV (ty P T).ag (ty P T).size el c with
          | none => simp only [oVo]; trivial
          | some X =>
            rw [hag, hsz] at hX
            exact outOK_v [(x, .ge k j c)] [(k, some (.arr e n els st))] (ok_loadGe ho hd hi (by rw [evL_den]; exact hx) hel hX) (by simpa using hx) (by simpa using hb) rfl rfl

def oFieldAddr (x : Operand) (dst : Option Nat) (X : AV) : Option (Nat × Nat) → Out
  | some (off, sz) => if sz = 0 then .fail else oVo [x] [] dst (fieldV off X)
  | none => .fail

theorem oFieldAddr_ok {P : Program} {W : World} {σ : AS} {o : Oper} {x : Operand} {T : TypeId} {f : Nat} (ho : o.op = .fieldAddr T x f) : OutOK P W o σ (oFieldAddr x o.dst (evL σ x) ((ty P T).fo[f]?)) := by
  cases h : (ty P T).fo[f]? with
  | none => simp only [oFieldAddr]; trivial
  | some q =>
    obtain ⟨fs, places, h1, h2, h3⟩ := ty_fo h
    rw [h3] at h
    obtain ⟨fd, h4, h5⟩ := mapM_get _ _ _ h2 f q h
    obtain ⟨off, sz⟩ := q
    simp only [oFieldAddr]
    split
    · trivial
    · rename_i hz
      cases hY : fieldV off (evL σ x) with
      | none => simp only [oVo]; trivial
      | some Y =>
        cases hi : P.info? fd.type with
        | none => rw [hi] at h5; cases h5
        | some i =>
          rw [hi] at h5
          simp only [Option.map_some, Option.some.injEq, Prod.mk.injEq] at h5
          obtain ⟨rfl, rfl⟩ := h5
          exact outOK_v [(x, evL σ x)] [] (ok_fieldAddr ho h1 (by simpa using h4) hi hz (evL_den σ x) hY) (by simp) (by simp) rfl rfl

def oIndexE (x ix : Operand) (dst : Option Nat) : Option AV → Out
  | some el => oV [x, ix] [] dst (.ip el 0)
  | none => .fail

def oIndexG (e : TypeId) (n : Nat) (x ix : Operand) (dst : Option Nat) (k i0 len : Nat) (j : Int) : Option GE → Out
  | some (.arr e' n' els st) => if e = e' ∧ n = n' then .req (0 ≤ j ∧ j < len) (oV [x, ix] [k] dst (.ge k (i0 + j.toNat) 0)) else .fail
  | _ => .fail

def oIndexAddr (P : Program) (σ : AS) (x ix : Operand) (dst : Option Nat) : Option TypeId → AV → AV → Out
  | some e, .sl n els _, .val (.int _ j) => if (ty P e).ok = true ∧ (ty P e).size = n then .req (0 ≤ j) (oIndexE x ix dst (els[j.toNat]?)) else .fail
  | some e, .gs k i0 len, .val (.int _ j) => if (ty P e).ok = true then oIndexG e (ty P e).size x ix dst k i0 len j (hg σ.h k) else .fail
  | _, _, _ => .fail

theorem oIndexAddr_ok {P : Program} {W : World} {σ : AS} {o : Oper} {x ix : Operand} {T : TypeId} (ho : o.op = .indexAddr T x ix) : OutOK P W o σ (oIndexAddr P σ x ix o.dst (ty P T).el (evL σ x) (evL σ ix)) := by
  unfold oIndexAddr
  split
  · rename_i e n els rest k j hel hx hix
    split
    · rename_i hc
      obtain ⟨d, i, hd, hi, he⟩ := ty_ok hc.1
      have hsz : (ty P e).size = i.size := by rw [he, tyD_size]
      intro h0
      cases hE : els[j.toNat]? with
      | none => simp only [oIndexE]; trivial
      | some el =>
        exact outOK_v [(x, .sl n els rest), (ix, .val (.int k j))] [] (ok_indexAddrSl ho (ty_el hel) hi (by rw [← hsz, hc.2]) (by rw [evL_den]; exact hx) (by rw [evL_den]; exact hix) h0 hE) (by simpa using ⟨hx, hix⟩) (by simp) rfl rfl
    · trivial
  · rename_i e q i0 len k j hel hx hix
    split
    · rename_i hc
      obtain ⟨d, i, hd, hi, he⟩ := ty_ok hc
      have hsz : (ty P e).size = i.size := by rw [he, tyD_size]
      cases hb : hg σ.h q with
      | none => simp only [oIndexG]; trivial
      | some g =>
        cases g with
        | box el st => simp only [oIndexG]; trivial
        | arr e' n' els st =>
          simp only [oIndexG]
          split
          · rename_i hh
            obtain ⟨rfl, rfl⟩ := hh
            intro h0
            exact outOK_v [(x, .gs q i0 len), (ix, .val (.int k j))] [(q, some (.arr e (ty P e).size els st))] (ok_indexAddrGs ho (ty_el hel) hi hsz.symm (by rw [evL_den]; exact hx) (by rw [evL_den]; exact hix) h0.1 h0.2) (by simpa using ⟨hx, hix⟩) (by simpa using hb) rfl rfl
          · trivial
    · trivial
  · trivial

end Go.Ab

/- What is proved: what each operation comes to, reckoned; that it is so: the others. No condition. -/
namespace Go.Ab
open Go

/-- From a rule: an operation that writes. -/
theorem outOK_w {P : Program} {W : World} {o : Oper} {σ : AS} (xs : List (Operand × AV)) (rh : List (Nat × Option GE)) (wh : List (Nat × GE)) {dst : Option Nat} {v : AV} {ys : List Operand} {rhN whN : List Nat}
    (h : LocalOK P o { rt := rds xs, rh := rh, dst := dst, v := v, wh := wh.map fun p => (p.1, some p.2) }) (hd : dst = o.dst)
    (hx : ∀ p ∈ xs, evL σ p.1 = p.2) (hh : ∀ p ∈ rh, hg σ.h p.1 = p.2) (hy : xs.map (·.1) = ys) (hr : keys rh = rhN) (hw : wh.map (·.1) = whN) : OutOK P W o σ (.eff ⟨dst, v, wh⟩ ⟨ys.flatMap rdN, dN dst, rhN, whN⟩) :=
  ⟨_, h.w, ⟨reads_rds hx, hh⟩, by
    show Foot.mk _ _ _ _ = Foot.mk _ _ _ _
    rw [keys_rds, keys_wT, hy, hr]
    simp only [keys, List.map_map]
    rw [show ((fun x : Nat × Option GE => x.fst) ∘ fun p : Nat × GE => (p.fst, some p.snd)) = fun p : Nat × GE => p.1 from rfl, hw], up_den _ _ _ rfl rfl rfl, hd⟩

theorem oMove_ok {P : Program} {W : World} {σ : AS} {o : Oper} {x : Operand} (ho : o.op = .move x ∨ o.op = .assign x) : OutOK P W o σ (oV [x] [] o.dst (evL σ x)) :=
  outOK_v [(x, evL σ x)] [] (ok_move ho (evL_den σ x)) (by simp) (by simp) rfl rfl

def oPick (σ : AS) (c x y : Operand) (dst : Option Nat) : AV → Out
  | .val (.bool b) => .ite b (oV [c, x, y] [] dst (evL σ x)) (oV [c, x, y] [] dst (evL σ y))
  | _ => .fail

theorem oPick_ok {P : Program} {W : World} {σ : AS} {o : Oper} {c x y : Operand} (ho : o.op = .pick c x y) : OutOK P W o σ (oPick σ c x y o.dst (evL σ c)) := by
  unfold oPick
  split
  · rename_i b hc
    have h := ok_pick (P := P) (t := σ.den.t) (b := b) ho (by rw [evL_den]; exact hc) (evL_den σ x) (evL_den σ y)
    refine ⟨fun hb => ?_, fun hb => ?_⟩ <;> subst hb
    · exact outOK_v [(c, .val (.bool true)), (x, evL σ x), (y, evL σ y)] [] h (by simpa using hc) (by simp) rfl rfl
    · exact outOK_v [(c, .val (.bool false)), (x, evL σ x), (y, evL σ y)] [] h (by simpa using hc) (by simp) rfl rfl
  · trivial

def oExtract (x : Operand) (i : Nat) (dst : Option Nat) : AV → Out
  | .tup cs => oVo [x] [] dst (cs[i]?)
  | _ => .fail

theorem oExtract_ok {P : Program} {W : World} {σ : AS} {o : Oper} {x : Operand} {i : Nat} (ho : o.op = .extract x i) : OutOK P W o σ (oExtract x i o.dst (evL σ x)) := by
  unfold oExtract
  split
  · rename_i cs hx
    cases h : cs[i]? with
    | none => simp only [oVo]; trivial
    | some X => exact outOK_v [(x, .tup cs)] [] (ok_extract ho (by rw [evL_den]; exact hx) h) (by simpa using hx) (by simp) rfl rfl
  · trivial

def oVv (xs : List Operand) (dst : Option Nat) : Option Value → Out
  | some v => oV xs [] dst (.val v)
  | none => .fail

def isC : Operand → Bool
  | .const _ => true
  | _ => false

theorem eq_nil_run {P : Program} {w : World} {xT : TypeId} {ms : Array (String × TypeId)} {d : Nat} (hT : P.underlying xT = some (.interface ms)) : (Op.equalIn (d + 1) xT .nilIface .nilIface).run P w = .ok true w := by
  rw [Op.equalIn]
  simp only [Sem.run_bind, run_underlying hT, Result.andThen_ok, Sem.run_pure]

theorem ok_nilCmp {P : Program} {o : Oper} {t : Nat → AV} {op : BinOp} {xT yT : TypeId} {x y : Operand} {ms : Array (String × TypeId)} (ho : o.op = .binOp op xT x y yT) (hop : op = .eql ∨ op = .neq) (hT : P.underlying xT = some (.interface ms))
    (hx : evA t x = .val .nilIface) (hy : evA t y = .val .nilIface) (hc : isC y = true) :
    LocalOK P o { rt := rds [(x, .val .nilIface), (y, .val .nilIface)], rh := [], dst := o.dst, v := .val (.bool (decide (op = .eql))) } :=
  localOKn [(x, .val .nilIface), (y, .val .nilIface)] [] _ (by simpa using ⟨hx, hy⟩) fun E σ a w β I _ hR _ => by
    have h1 := (hR (x, .val .nilIface) (by simp)).val_inv
    have h2 := (hR (y, .val .nilIface) (by simp)).val_inv
    simp only at h1 h2
    have he : (Op.equal xT .nilIface .nilIface).run P w = .ok true w := eq_nil_run (d := 9999) hT
    refine ⟨_, ?_, .val _ _⟩
    cases y with
    | const cv =>
      rcases hop with rfl | rfl <;> simp [execOp, ho, h1, h2, eqGuard_nil_constR, binOp, he]
    | _ => cases hc

def oBin (T : Ty) (op : BinOp) (x y : Operand) (dst : Option Nat) : AV → AV → Out
  | .val (.int k a), .val v => oVv [x, y] dst (binV op (.int k a) v)
  | .str a, .str b =>
    match op with
    | .add => .req (a.length + b.length ≤ maxLen) (oV [x, y] [] dst (.str (a ++ b)))
    | op => oVo [x, y] [] dst (strV op a b)
  | .val (.bool a), .val (.bool b) =>
    if T.bl = true then
      match op with
      | .eql => oV [x, y] [] dst (.val (.bool (a == b)))
      | .neq => oV [x, y] [] dst (.val (.bool (!(a == b))))
      | _ => .fail
    else .fail
  | .val .nilIface, .val .nilIface =>
    if T.ifc = true ∧ isC y = true then
      match op with
      | .eql => oV [x, y] [] dst (.val (.bool true))
      | .neq => oV [x, y] [] dst (.val (.bool false))
      | _ => .fail
    else .fail
  | _, _ => .fail

theorem oBin_ok {P : Program} {W : World} {σ : AS} {o : Oper} {op : BinOp} {xT yT : TypeId} {x y : Operand} (ho : o.op = .binOp op xT x y yT) : OutOK P W o σ (oBin (ty P xT) op x y o.dst (evL σ x) (evL σ y)) := by
  unfold oBin
  split
  · rename_i k a v hx hy
    cases h : binV op (.int k a) v with
    | none => simp only [oVv]; trivial
    | some r => exact outOK_v [(x, .val (.int k a)), (y, .val v)] [] (ok_bin ho (by rw [evL_den]; exact hx) (by rw [evL_den]; exact hy) h) (by simpa using ⟨hx, hy⟩) (by simp) rfl rfl
  · rename_i a b hx hy
    split
    · intro hle
      exact outOK_v [(x, .str a), (y, .str b)] [] (ok_binStr (op := .add) ho (by rw [evL_den]; exact hx) (by rw [evL_den]; exact hy) rfl (fun _ => hle)) (by simpa using ⟨hx, hy⟩) (by simp) rfl rfl
    · rename_i hne
      cases h : strV op a b with
      | none => simp only [oVo]; trivial
      | some r => exact outOK_v [(x, .str a), (y, .str b)] [] (ok_binStr ho (by rw [evL_den]; exact hx) (by rw [evL_den]; exact hy) h (fun e => absurd e (by simpa using hne))) (by simpa using ⟨hx, hy⟩) (by simp) rfl rfl
  · rename_i a b hx hy
    split
    · rename_i hb
      have hT := ty_bl hb
      split
      · exact outOK_v [(x, .val (.bool a)), (y, .val (.bool b))] [] (ok_eqBool ho hT (by rw [evL_den]; exact hx) (by rw [evL_den]; exact hy)) (by simpa using ⟨hx, hy⟩) (by simp) rfl rfl
      · exact outOK_v [(x, .val (.bool a)), (y, .val (.bool b))] [] (ok_neBool ho hT (by rw [evL_den]; exact hx) (by rw [evL_den]; exact hy)) (by simpa using ⟨hx, hy⟩) (by simp) rfl rfl
      · trivial
    · trivial
  · rename_i hx hy
    split
    · rename_i hb
      obtain ⟨ms, hT⟩ := ty_ifc hb.1
      split
      · exact outOK_v [(x, .val .nilIface), (y, .val .nilIface)] [] (ok_nilCmp (op := .eql) ho (.inl rfl) hT (by rw [evL_den]; exact hx) (by rw [evL_den]; exact hy) hb.2) (by simpa using ⟨hx, hy⟩) (by simp) rfl rfl
      · exact outOK_v [(x, .val .nilIface), (y, .val .nilIface)] [] (ok_nilCmp (op := .neq) ho (.inr rfl) hT (by rw [evL_den]; exact hx) (by rw [evL_den]; exact hy) hb.2) (by simpa using ⟨hx, hy⟩) (by simp) rfl rfl
      · trivial
    · trivial
  · trivial

def oUn (op : UnOp) (x : Operand) (dst : Option Nat) : AV → Out
  | .val (.bool b) => match op with | .not => oV [x] [] dst (.val (.bool (!b))) | _ => .fail
  | .val (.int k n) => match op with | .neg => oV [x] [] dst (.val (.int k (k.wrap (0 - n)))) | _ => .fail
  | _ => .fail

theorem oUn_ok {P : Program} {W : World} {σ : AS} {o : Oper} {op : UnOp} {xT : TypeId} {x : Operand} (ho : o.op = .unOp op xT x) : OutOK P W o σ (oUn op x o.dst (evL σ x)) := by
  unfold oUn
  split
  · rename_i b hx
    split
    · exact outOK_v [(x, .val (.bool b))] [] (ok_not ho (by rw [evL_den]; exact hx)) (by simpa using hx) (by simp) rfl rfl
    · trivial
  · rename_i k n hx
    split
    · exact outOK_v [(x, .val (.int k n))] [] (ok_neg ho (by rw [evL_den]; exact hx)) (by simpa using hx) (by simp) rfl rfl
    · trivial
  · trivial

def oConv (sok : Bool) (x : Operand) (dst : Option Nat) : Option IntKind → AV → Out
  | some j, .val (.int _ n) => if sok = true then oV [x] [] dst (.val (.int j (j.wrap n))) else .fail
  | _, _ => .fail

theorem oConv_ok {P : Program} {W : World} {σ : AS} {o : Oper} {sT dT : TypeId} {x : Operand} (ho : o.op = .convert sT dT x) : OutOK P W o σ (oConv (ty P sT).ok x o.dst (ty P dT).ik (evL σ x)) := by
  unfold oConv
  split
  · rename_i j k n hj hx
    split
    · rename_i hs
      obtain ⟨d, i, hd, hi, he⟩ := ty_ok hs
      exact outOK_v [(x, .val (.int k n))] [] (ok_convInt ho hd (ty_ik hj) (by rw [evL_den]; exact hx)) (by simpa using hx) (by simp) rfl rfl
    · trivial
  · trivial

def oByte (x ix : Operand) (dst : Option Nat) : Option UInt8 → Out
  | some b => oV [x, ix] [] dst (.val (.int .u8 b.toNat))
  | none => .fail

def oIndex (T : Ty) (x ix : Operand) (dst : Option Nat) : AV → AV → Out
  | .str l, .val (.int _ i) => if T.str = true then .req (0 ≤ i) (oByte x ix dst (l[i.toNat]?)) else .fail
  | _, _ => .fail

theorem oIndex_ok {P : Program} {W : World} {σ : AS} {o : Oper} {xT : TypeId} {x ix : Operand} (ho : o.op = .index xT x ix) : OutOK P W o σ (oIndex (ty P xT) x ix o.dst (evL σ x) (evL σ ix)) := by
  unfold oIndex
  split
  · rename_i l k i hx hi
    split
    · rename_i hT
      intro h0
      cases hb : l[i.toNat]? with
      | none => simp only [oByte]; trivial
      | some b => exact outOK_v [(x, .str l), (ix, .val (.int k i))] [] (ok_indexStr ho (ty_str hT) (by rw [evL_den]; exact hx) (by rw [evL_den]; exact hi) h0 hb) (by simpa using ⟨hx, hi⟩) (by simp) rfl rfl
    · trivial
  · trivial

def oLen (T : Ty) (x : Operand) (dst : Option Nat) : AV → Out
  | .str l => if T.str = true then oV [x] [] dst (.val (.int .i64 l.length)) else .fail
  | .sl _ els _ => if T.el.isSome = true then oV [x] [] dst (.val (.int .i64 els.length)) else .fail
  | .gs _ _ len => if T.el.isSome = true then oV [x] [] dst (.val (.int .i64 len)) else .fail
  | .val (.slice none 0 0) => if T.el.isSome = true then oV [x] [] dst (.val (.int .i64 0)) else .fail
  | _ => .fail

theorem oLen_ok {P : Program} {W : World} {σ : AS} {o : Oper} {T : TypeId} {x : Operand} (ho : o.op = .call { callee := .builtin .len, args := #[x], argTypes := #[T] }) : OutOK P W o σ (oLen (ty P T) x o.dst (evL σ x)) := by
  have el : (ty P T).el.isSome = true → ∃ e, P.underlying T = some (.slice e) := fun h => by
    obtain ⟨e, he⟩ := Option.isSome_iff_exists.1 h
    exact ⟨e, ty_el he⟩
  unfold oLen
  split
  · rename_i l hx
    split
    · rename_i hT
      exact outOK_v [(x, .str l)] [] (ok_len (X := .str l) ho (ty_str hT) (by rw [evL_den]; exact hx) rfl) (by simpa using hx) (by simp) rfl rfl
    · trivial
  · rename_i n els rest hx
    split
    · rename_i hT
      exact outOK_v [(x, .sl n els rest)] [] (ok_len (X := .sl n els rest) ho (el hT) (by rw [evL_den]; exact hx) rfl) (by simpa using hx) (by simp) rfl rfl
    · trivial
  · rename_i k i len hx
    split
    · rename_i hT
      exact outOK_v [(x, .gs k i len)] [] (ok_len (X := .gs k i len) ho (el hT) (by rw [evL_den]; exact hx) rfl) (by simpa using hx) (by simp) rfl rfl
    · trivial
  · rename_i hx
    split
    · rename_i hT
      exact outOK_v [(x, .val (.slice none 0 0))] [] (ok_len (X := .val (.slice none 0 0)) ho (el hT) (by rw [evL_den]; exact hx) rfl) (by simpa using hx) (by simp) rfl rfl
    · trivial
  · trivial

/-- A bound, reckoned. -/
def bI (σ : AS) : Option Operand → Nat → Option Int
  | none, d => some d
  | some y, _ => match evL σ y with | .val (.int _ i) => some i | _ => none

theorem bI_bnd {σ : AS} {b : Option Operand} {d : Nat} {i : Int} (h : bI σ b d = some i) (h0 : 0 ≤ i) : ∃ xs, Bnd σ.den.t b xs d i.toNat ∧ xs.map (·.1) = b.toList ∧ ∀ p ∈ xs, evL σ p.1 = p.2 := by
  cases b with
  | none =>
    simp only [bI, Option.some.injEq] at h
    subst h
    exact ⟨[], .inl ⟨rfl, by simp, rfl⟩, rfl, by simp⟩
  | some y =>
    simp only [bI] at h
    split at h
    · rename_i k j hy
      cases h
      exact ⟨[(y, .val (.int k i))], .inr ⟨y, k, i, rfl, by rw [evL_den]; exact hy, h0, rfl, rfl⟩, rfl, by simpa using hy⟩
    · cases h

def oSliceG (e : TypeId) (n : Nat) (xs : List Operand) (dst : Option Nat) (k i0 len : Nat) (l h : Int) : Option GE → Out
  | some (.arr e' n' _ _) => if e = e' ∧ n = n' then .req (0 ≤ l ∧ 0 ≤ h) (.req (l ≤ h ∧ h ≤ len) (oV xs [k] dst (.gs k (i0 + l.toNat) (h.toNat - l.toNat)))) else .fail
  | _ => .fail

def oSlice (P : Program) (σ : AS) (T : Ty) (x : Operand) (lo hi : Option Operand) (dst : Option Nat) : AV → Option Int → Option Int → Out
  | .str s, some l, some h => if T.str = true then .req (0 ≤ l ∧ 0 ≤ h) (.req (l ≤ h ∧ h ≤ s.length) (oV (x :: (lo.toList ++ hi.toList)) [] dst (.str ((s.take h.toNat).drop l.toNat)))) else .fail
  | .sl n els rest, some l, some h =>
    match T.el with
    | some e => if (ty P e).ok = true ∧ (ty P e).size = n then .req (0 ≤ l ∧ 0 ≤ h) (.req (l ≤ h ∧ h ≤ els.length + rest.length) (oV (x :: (lo.toList ++ hi.toList)) [] dst (.sl n (((els ++ rest).take h.toNat).drop l.toNat) ((els ++ rest).drop h.toNat)))) else .fail
    | none => .fail
  | .gs k i0 len, some l, some h =>
    match T.el with
    | some e => if (ty P e).ok = true then oSliceG e (ty P e).size (x :: (lo.toList ++ hi.toList)) dst k i0 len l h (hg σ.h k) else .fail
    | none => .fail
  | .val (.slice none 0 0), some l, some h =>
    match T.el with
    | some e => if (ty P e).ok = true then .req (l = 0 ∧ h = 0) (oV (x :: (lo.toList ++ hi.toList)) [] dst (.val (.slice none 0 0))) else .fail
    | none => .fail
  | _, _, _ => .fail

def defLen : AV → Nat
  | .str l => l.length
  | .sl _ els _ => els.length
  | .gs _ _ len => len
  | _ => 0

theorem mem3 {σ : AS} {x : Operand} {X : AV} {a b : List (Operand × AV)} (hx : evL σ x = X) (ha : ∀ p ∈ a, evL σ p.1 = p.2) (hb : ∀ p ∈ b, evL σ p.1 = p.2) : ∀ p ∈ (x, X) :: (a ++ b), evL σ p.1 = p.2 := by
  intro p hp
  simp only [List.mem_cons, List.mem_append] at hp
  rcases hp with rfl | hp | hp
  · exact hx
  · exact ha p hp
  · exact hb p hp

theorem oSlice_ok {P : Program} {W : World} {σ : AS} {o : Oper} {T : TypeId} {x : Operand} {lo hi : Option Operand} (ho : o.op = .slice T x lo hi none) :
    OutOK P W o σ (oSlice P σ (ty P T) x lo hi o.dst (evL σ x) (bI σ lo 0) (bI σ hi (defLen (evL σ x)))) := by
  generalize hl : bI σ lo 0 = L
  generalize hh : bI σ hi (defLen (evL σ x)) = U
  unfold oSlice
  split
  · rename_i s l h hx
    rw [hx] at hh
    split
    · rename_i hT
      intro h0 h1
      obtain ⟨xlo, b1, b2, b3⟩ := bI_bnd hl h0.1
      obtain ⟨xhi, c1, c2, c3⟩ := bI_bnd hh h0.2
      have := ok_sliceStr (P := P) (s := s) ho (ty_str hT) (by rw [evL_den]; exact hx) b1 c1 (by omega) (by omega)
      exact outOK_v _ [] this (mem3 hx b3 c3) (by simp) (by simp [b2, c2]) rfl
    · trivial
  · rename_i n els rest l h hx
    rw [hx] at hh
    split
    · rename_i e hel
      split
      · rename_i hc
        intro h0 h1
        obtain ⟨d, i, hd, hi, he⟩ := ty_ok hc.1
        have hsz : (ty P e).size = i.size := by rw [he, tyD_size]
        obtain ⟨xlo, b1, b2, b3⟩ := bI_bnd hl h0.1
        obtain ⟨xhi, c1, c2, c3⟩ := bI_bnd hh h0.2
        have := ok_sliceSl (P := P) (els := els) (rest := rest) ho (ty_el hel) hi (by rw [← hsz, hc.2]) (by rw [evL_den]; exact hx) b1 c1 (by omega) (by omega)
        exact outOK_v _ [] this (mem3 hx b3 c3) (by simp) (by simp [b2, c2]) rfl
      · trivial
    · trivial
  · rename_i k i0 len l h hx
    rw [hx] at hh
    split
    · rename_i e hel
      split
      · rename_i hc
        obtain ⟨d, i, hd, hi, he⟩ := ty_ok hc
        have hsz : (ty P e).size = i.size := by rw [he, tyD_size]
        cases hb : hg σ.h k with
        | none => simp only [oSliceG]; trivial
        | some g =>
          cases g with
          | box el st => simp only [oSliceG]; trivial
          | arr e' n' els st =>
            simp only [oSliceG]
            split
            · rename_i hq
              obtain ⟨rfl, rfl⟩ := hq
              intro h0 h1
              obtain ⟨xlo, b1, b2, b3⟩ := bI_bnd hl h0.1
              obtain ⟨xhi, c1, c2, c3⟩ := bI_bnd hh h0.2
              have := ok_sliceGs (P := P) (els := els) (st := st) (len := len) ho (ty_el hel) hi hsz.symm (by rw [evL_den]; exact hx) b1 c1 (by omega) (by omega)
              exact outOK_v _ [(k, some (.arr e (ty P e).size els st))] this (mem3 hx b3 c3) (by simpa using hb) (by simp [b2, c2]) rfl
            · trivial
      · trivial
    · trivial
  · rename_i l h hx
    rw [hx] at hh
    split
    · rename_i e hel
      split
      · rename_i hc
        obtain ⟨d, i, hd, hi, he⟩ := ty_ok hc
        intro h0
        obtain ⟨xlo, b1, b2, b3⟩ := bI_bnd hl (by omega)
        obtain ⟨xhi, c1, c2, c3⟩ := bI_bnd hh (by omega)
        have e1 : l.toNat = 0 := by omega
        have e2 : h.toNat = 0 := by omega
        rw [e1] at b1
        rw [e2] at c1
        have := ok_sliceNil (P := P) ho (ty_el hel) hi (by rw [evL_den]; exact hx) b1 c1
        exact outOK_v _ [] this (mem3 hx b3 c3) (by simp) (by simp [b2, c2]) rfl
      · trivial
    · trivial
  · trivial

end Go.Ab

/- What is proved: what each operation that makes or writes memory comes to, reckoned; that it is so. No condition. -/
namespace Go.Ab
open Go

/-- A free name for what an operation with this slot makes. -/
def frN (σ : AS) : Option Nat → Option Nat
  | none => none
  | some d => match hg σ.h d with
    | none => some d
    | some _ => match hg σ.h (d + 1000) with
      | none => some (d + 1000)
      | some _ => none

theorem frN_ok {σ : AS} {d : Option Nat} {k : Nat} (h : frN σ d = some k) : hg σ.h k = none := by
  unfold frN at h
  split at h
  · cases h
  · split at h
    · cases h; assumption
    · split at h
      · cases h; assumption
      · cases h

def oBox (x : Operand) (dst : Option Nat) (X : AV) : Option Nat → Out
  | some k => if X.sto = true then .eff ⟨dst, .gp k 0, [(k, .box X .own)]⟩ ⟨rdN x, dN dst, [k], [k]⟩ else .fail
  | none => .fail

theorem oBox_ok {P : Program} {W : World} {σ : AS} {o : Oper} {T : TypeId} {x : Operand} (ho : o.op = .box T x) : OutOK P W o σ (oBox x o.dst (evL σ x) (frN σ o.dst)) := by
  cases hk : frN σ o.dst with
  | none => simp only [oBox]; trivial
  | some k =>
    simp only [oBox]
    split
    · rename_i hs
      have := outOK_w (P := P) (W := W) (σ := σ) [(x, evL σ x)] [(k, none)] [(k, .box (evL σ x) .own)] (ok_box (d := k) ho (evL_den σ x) hs) rfl (by simp) (by simpa using frN_ok hk) (ys := [x]) (rhN := [k]) (whN := [k]) rfl rfl rfl
      simpa using this
    · trivial

def oAlloc (T : Ty) (dst : Option Nat) : Option Nat → Out
  | some k => if T.okz = true ∧ T.z.sto = true then .eff ⟨dst, .gp k 0, [(k, .box T.z .own)]⟩ ⟨[], dN dst, [k], [k]⟩ else .fail
  | none => .fail

theorem oAlloc_ok {P : Program} {W : World} {σ : AS} {o : Oper} {T : TypeId} (ho : o.op = .alloc T) : OutOK P W o σ (oAlloc (ty P T) o.dst (frN σ o.dst)) := by
  cases hk : frN σ o.dst with
  | none => simp only [oAlloc]; trivial
  | some k =>
    simp only [oAlloc]
    split
    · rename_i hs
      obtain ⟨i, z, h1, h2, h3, h4, h5, h6, h7⟩ := ty_zero hs.1
      rw [h5] at hs ⊢
      exact outOK_w (P := P) (W := W) [] [(k, none)] [(k, .box (zeroA z) .own)] (ok_alloc (d := k) ho h1 h2 hs.2) rfl (by simp) (by simpa using frN_ok hk) (ys := []) rfl rfl rfl
    · trivial

def avL (σ : AS) (ps : List (Nat × Operand)) : List (Nat × AV) := ps.map fun p => (p.1, evL σ p.2)

theorem avL_eq (σ : AS) (ps : List (Nat × Operand)) : avals σ.den.t ps = avL σ ps := by
  unfold avals avL
  apply List.map_congr_left
  intro p _
  rw [evL_den]

theorem arts_ev (σ : AS) (ps : List (Nat × Operand)) : ∀ p ∈ arts σ.den.t ps, evL σ p.1 = p.2 := by
  intro p hp
  obtain ⟨q, _, rfl⟩ := List.mem_map.1 hp
  exact (evL_den σ q.2).symm

theorem arts_fst (t : Nat → AV) (ps : List (Nat × Operand)) : (arts t ps).map (·.1) = ps.map (·.2) := by
  unfold arts; rw [List.map_map]; rfl

def oAgg (xs : List Operand) (dst : Option Nat) : Option (List AV) → Out
  | some cs => oV xs [] dst (.agg cs)
  | none => .fail

def oBuild (T : Ty) (σ : AS) (ps : List (Nat × Operand)) (dst : Option Nat) : Out :=
  if T.okz = true ∧ T.z.isAgg = true ∧ T.fo ≠ [] then oAgg (ps.map (·.2)) dst (fillA (T.fo[·]?) T.z.flat (avL σ ps)) else .fail

theorem oBuild_ok {P : Program} {W : World} {σ : AS} {o : Oper} {T : TypeId} {ps : Array (Nat × Operand)} (ho : o.op = .build T ps) : OutOK P W o σ (oBuild (ty P T) σ ps.toList o.dst) := by
  unfold oBuild
  split
  · rename_i hc
    obtain ⟨i, z, h1, h2, h3, h4, h5, h6, h7⟩ := ty_zero hc.1
    cases hf : fillA ((ty P T).fo[·]?) (ty P T).z.flat (avL σ ps.toList) with
    | none => simp only [oAgg]; trivial
    | some cs =>
      obtain ⟨q, hq⟩ : ∃ q, (ty P T).fo[0]? = some q := by
        cases hfo : (ty P T).fo with
        | nil => exact absurd hfo hc.2.2
        | cons q l => exact ⟨q, rfl⟩
      obtain ⟨fs, places, p1, p2, p3⟩ := ty_fo hq
      have hag : ∃ cz, z = .agg cz := by
        have hz := hc.2.1
        rw [h5] at hz
        cases z <;> first | exact ⟨_, rfl⟩ | (simp [zeroA, zc, AV.isAgg] at hz; done)
      obtain ⟨cz, rfl⟩ := hag
      rw [h5, p3] at hf
      have hfl : (zeroA (.agg cz)).flat = cz.toList.map zc := rfl
      rw [hfl, ← avL_eq] at hf
      exact outOK_v (arts σ.den.t ps.toList) [] (ok_build ho h1 p1 h2 (by simpa [Value.cells] using h4) p2 hf) (arts_ev σ _) (by simp) (arts_fst _ _) rfl
  · trivial

end Go.Ab

/- What is proved: what literals of slices, make, stores, append, copy and calls come to, reckoned; that it is so. No condition. -/
namespace Go.Ab
open Go

def oBuildSlice (P : Program) (σ : AS) (len : Nat) (ps : List (Nat × Operand)) (dst : Option Nat) : Option TypeId → Option Nat → Out
  | some e, some k =>
    if (ty P e).okz = true ∧ 0 < (ty P e).size ∧ ps.length = len ∧ len * (ty P e).size ≤ 16777216 ∧ fullParts (ty P e).size (avL σ ps) 0 = true then
      .eff ⟨dst, .gs k 0 len, [(k, .arr e (ty P e).size ((avL σ ps).map (·.2)) .own)]⟩ ⟨(ps.map (·.2)).flatMap rdN, dN dst, [k], [k]⟩
    else .fail
  | _, _ => .fail

theorem oBuildSlice_ok {P : Program} {W : World} {σ : AS} {o : Oper} {T : TypeId} {len : Nat} {ps : Array (Nat × Operand)} (ho : o.op = .buildSlice T len ps) :
    OutOK P W o σ (oBuildSlice P σ len ps.toList o.dst (ty P T).el (frN σ o.dst)) := by
  unfold oBuildSlice
  split
  · rename_i e k hel hk
    split
    · rename_i hc
      obtain ⟨i, z, h1, h2, h3, h4, h5, h6, h7⟩ := ty_zero hc.1
      have := ok_buildSlice (P := P) (t := σ.den.t) (d := k) ho (ty_el hel) h1 h6.symm hc.2.1 h2 (by rw [h6]; exact h3) h4 (by simpa using hc.2.2.1) hc.2.2.2.1 (by rw [avL_eq]; exact hc.2.2.2.2) rfl
      rw [avL_eq] at this
      exact outOK_w (P := P) (W := W) (σ := σ) (arts σ.den.t ps.toList) [(k, none)] [(k, .arr e (ty P e).size ((avL σ ps.toList).map (·.2)) .own)] this rfl (arts_ev σ _) (by simpa using frN_ok hk) (rhN := [k]) (whN := [k]) (arts_fst _ _) rfl rfl
    · trivial
  · trivial

def oMakeSlice (P : Program) (x y : Operand) (dst : Option Nat) : Option TypeId → Option Nat → AV → AV → Out
  | some e, some k, .val (.int _ l), .val (.int _ c) =>
    if (ty P e).okz = true ∧ 0 < (ty P e).size then
      .req (0 ≤ l ∧ l ≤ c) (.req (((ty P e).bytes : Int) * c ≤ 281474976710656 ∧ c ≤ 9223372036854775807)
        (.eff ⟨dst, .gs k 0 l.toNat, [(k, .arr e (ty P e).size (List.replicate l.toNat (ty P e).z) .own)]⟩ ⟨[x, y].flatMap rdN, dN dst, [k], [k]⟩))
    else .fail
  | _, _, _, _ => .fail

theorem oMakeSlice_ok {P : Program} {W : World} {σ : AS} {o : Oper} {T : TypeId} {x y : Operand} (ho : o.op = .makeSlice T x y) :
    OutOK P W o σ (oMakeSlice P x y o.dst (ty P T).el (frN σ o.dst) (evL σ x) (evL σ y)) := by
  unfold oMakeSlice
  split
  · rename_i e k k1 l k2 c hel hk hx hy
    split
    · rename_i hc
      obtain ⟨i, z, h1, h2, h3, h4, h5, h6, h7⟩ := ty_zero hc.1
      intro hl hb
      have := ok_makeSlice (P := P) (t := σ.den.t) (d := k) ho (ty_el hel) h1 h6.symm hc.2 h2 (by rw [h6]; exact h3) h4 (by rw [evL_den]; exact hx) (by rw [evL_den]; exact hy) hl.1 hl.2 (by rw [← h7]; exact hb.1) hb.2
      rw [← h5] at this
      exact outOK_w (P := P) (W := W) (σ := σ) [(x, .val (.int k1 l)), (y, .val (.int k2 c))] [(k, none)] [(k, .arr e (ty P e).size (List.replicate l.toNat (ty P e).z) .own)] this rfl (by simpa using ⟨hx, hy⟩) (by simpa using frN_ok hk) (ys := [x, y]) (rhN := [k]) (whN := [k]) rfl rfl rfl
    · trivial
  · trivial

def oStoreB (T : Ty) (x y : Operand) (k c : Nat) (Y : AV) : Option GE → Out
  | some (.box el .own) => if Y.sto = true ∧ Y.flat.length = T.size ∧ c + T.size ≤ el.flat.length then .eff ⟨none, .top, [(k, .box (stV el c Y) .own)]⟩ ⟨[x, y].flatMap rdN, [], [k], [k]⟩ else .fail
  | _ => .fail

def oStoreE (T : Ty) (x y : Operand) (k j c : Nat) (Y : AV) (e : TypeId) (n : Nat) (els : List AV) : Option AV → Out
  | some el => if Y.sto = true ∧ Y.clo = true ∧ Y.flat.length = T.size ∧ c + T.size ≤ n then .eff ⟨none, .top, [(k, .arr e n (els.set j (stV el c Y)) .own)]⟩ ⟨[x, y].flatMap rdN, [], [k], [k]⟩ else .fail
  | none => .fail

def oStoreA (T : Ty) (x y : Operand) (k j c : Nat) (Y : AV) : Option GE → Out
  | some (.arr e n els .own) => oStoreE T x y k j c Y e n els (els[j]?)
  | _ => .fail

def oStore (T : Ty) (σ : AS) (x y : Operand) (Y : AV) : AV → Out
  | .gp k c => if T.ok = true then oStoreB T x y k c Y (hg σ.h k) else .fail
  | .ge k j c => if T.ok = true then oStoreA T x y k j c Y (hg σ.h k) else .fail
  | _ => .fail

theorem oStore_ok {P : Program} {W : World} {σ : AS} {o : Oper} {T : TypeId} {x y : Operand} (ho : o.op = .store T x y) (hd : o.dst = none) : OutOK P W o σ (oStore (ty P T) σ x y (evL σ y) (evL σ x)) := by
  unfold oStore
  split
  · rename_i k c hx
    split
    · rename_i hT
      obtain ⟨d, i, hdd, hi, he⟩ := ty_ok hT
      have hsz : (ty P T).size = i.size := by rw [he, tyD_size]
      cases hb : hg σ.h k with
      | none => simp only [oStoreB]; trivial
      | some g =>
        cases g with
        | arr e n els st => simp only [oStoreB]; trivial
        | box el st =>
          cases st <;> simp only [oStoreB] <;> try trivial
          split
          · rename_i hc
            rw [hsz] at hc
            exact outOK_w (P := P) (W := W) (σ := σ) [(x, .gp k c), (y, evL σ y)] [(k, some (.box el .own))] [(k, .box (stV el c (evL σ y)) .own)] (ok_storeBox ho hd hi (by rw [evL_den]; exact hx) (evL_den σ y) hc.1 hc.2.1 hc.2.2) hd.symm (by simpa using hx) (by simpa using hb) (ys := [x, y]) (rhN := [k]) (whN := [k]) rfl rfl rfl
          · trivial
    · trivial
  · rename_i k j c hx
    split
    · rename_i hT
      obtain ⟨d, i, hdd, hi, he⟩ := ty_ok hT
      have hsz : (ty P T).size = i.size := by rw [he, tyD_size]
      cases hb : hg σ.h k with
      | none => simp only [oStoreA]; trivial
      | some g =>
        cases g with
        | box el st => simp only [oStoreA]; trivial
        | arr e n els st =>
          cases st <;> simp only [oStoreA] <;> try trivial
          cases hel : els[j]? with
          | none => simp only [oStoreE]; trivial
          | some el =>
            simp only [oStoreE]
            split
            · rename_i hc
              rw [hsz] at hc
              exact outOK_w (P := P) (W := W) (σ := σ) [(x, .ge k j c), (y, evL σ y)] [(k, some (.arr e n els .own))] [(k, .arr e n (els.set j (stV el c (evL σ y))) .own)] (ok_storeGe ho hd hi (by rw [evL_den]; exact hx) (evL_den σ y) hc.1 hc.2.1 hc.2.2.1 hel hc.2.2.2) hd.symm (by simpa using hx) (by simpa using hb) (ys := [x, y]) (rhN := [k]) (whN := [k]) rfl rfl rfl
            · trivial
    · trivial
  · trivial

/-- The elements of a source, reckoned: its elements, their width (none: any), the names that are looked at. -/
def srcG (i len : Nat) (k : Nat) : Option GE → Option (List AV × Option Nat × List Nat)
  | some (.arr _ n els _) => if i + len ≤ els.length then some ((els.drop i).take len, some n, [k]) else none
  | _ => none

def srcO (σ : AS) : AV → Option (List AV × Option Nat × List Nat)
  | .sl n els _ => some (els, some n, [])
  | .val (.slice none 0 0) => some ([], none, [])
  | .gs k i len => srcG i len k (hg σ.h k)
  | _ => none

theorem srcO_ok {σ : AS} {Y : AV} {xs : List AV} {q : Option Nat} {ks : List Nat} (h : srcO σ Y = some (xs, q, ks)) (n : Nat) (hq : ∀ m, q = some m → m = n) :
    srcV (hg σ.h) Y = some xs ∧ srcN (hg σ.h) n Y ∧ keys (srcH (hg σ.h) Y) = ks := by
  unfold srcO at h
  split at h
  · cases h; exact ⟨rfl, hq _ rfl, rfl⟩
  · cases h; exact ⟨rfl, trivial, rfl⟩
  · rename_i k i len
    cases hk : hg σ.h k with
    | none => rw [hk] at h; cases h
    | some g =>
      cases g with
      | box el st => rw [hk] at h; cases h
      | arr e m els st =>
        rw [hk] at h
        simp only [srcG] at h
        split at h
        · rename_i hle
          cases h
          refine ⟨by simp only [srcV, hk, if_pos hle], by simp only [srcN, hk]; exact hq _ rfl, rfl⟩
        · cases h
  · cases h

def oAppG (P : Program) (e : TypeId) (x y : Operand) (dst : Option Nat) (k len d : Nat) (xs : List AV) (ks : List Nat) : Option GE → Out
  | some (.arr e' n els st) =>
    if e = e' ∧ n = (ty P e).size ∧ k ≠ d then
      .req ((st = .own ∨ st = .shr ∧ len = els.length) ∧ len ≤ els.length) (.req ((len + xs.length) * (ty P e).bytes ≤ 140737488355328)
        (.eff ⟨dst, .gs d 0 (len + xs.length), [(k, .arr e n (els.take len) .sld), (d, .arr e n (els.take len ++ xs) .shr)]⟩ ⟨[x, y].flatMap rdN, dN dst, k :: d :: ks, [k, d]⟩))
    else .fail
  | _ => .fail

def oApp (P : Program) (σ : AS) (x y : Operand) (dst : Option Nat) (X : AV) : Option TypeId → Option TypeId → Option Nat → Option (List AV × Option Nat × List Nat) → Out
  | some e, some _, some d, some (xs, q, ks) =>
    if (ty P e).okz = true ∧ 0 < (ty P e).bytes ∧ 0 < (ty P e).size ∧ (q = none ∨ q = some (ty P e).size) then
      match X with
      | .gs k 0 len => oAppG P e x y dst k len d xs ks (hg σ.h k)
      | .val (.slice none 0 0) => .req (xs.length * (ty P e).bytes ≤ 140737488355328)
        (.eff ⟨dst, .gs d 0 xs.length, [(d, .arr e (ty P e).size xs .own)]⟩ ⟨[x, y].flatMap rdN, dN dst, d :: ks, [d]⟩)
      | _ => .fail
    else .fail
  | _, _, _, _ => .fail

theorem oApp_ok {P : Program} {W : World} {σ : AS} {o : Oper} {T U : TypeId} {x y : Operand} (ho : o.op = .call { callee := .builtin .append, args := #[x, y], argTypes := #[T, U] }) :
    OutOK P W o σ (oApp P σ x y o.dst (evL σ x) (ty P T).el (ty P U).el (frN σ o.dst) (srcO σ (evL σ y))) := by
  unfold oApp
  split
  · rename_i e e' d xs q ks hel hel' hd hs
    split
    · rename_i hc
      obtain ⟨i, z, h1, h2, h3, h4, h5, h6, h7⟩ := ty_zero hc.1
      obtain ⟨s1, s2, s3⟩ := srcO_ok hs (ty P e).size (fun m hm => by
        rcases hc.2.2.2 with h | h
        · rw [h] at hm; cases hm
        · rw [h] at hm; cases hm; rfl)
      split
      · rename_i k len hx
        cases hb : hg σ.h k with
        | none => simp only [oAppG]; trivial
        | some g =>
          cases g with
          | box el st => simp only [oAppG]; trivial
          | arr e2 n els st =>
            simp only [oAppG]
            split
            · rename_i hh
              obtain ⟨rfl, rfl, hkd⟩ := hh
              intro hst hfit
              have := ok_append (P := P) (t := σ.den.t) (h := hg σ.h) (d := d) ho (ty_el hel) (ty_el hel') h1 h6.symm h2 (by rw [h6]; exact h3) (by rw [← h7]; exact hc.2.1) (by rw [evL_den]; exact hx) (evL_den σ y) hb s1 s2 hst.1 hst.2 (by rw [← h7]; exact hfit)
              exact outOK_w (P := P) (W := W) (σ := σ) [(x, .gs k 0 len), (y, evL σ y)] _ [(k, .arr e (ty P e).size (els.take len) .sld), (d, .arr e (ty P e).size (els.take len ++ xs) .shr)] this rfl (by simpa using hx) (by
                intro p hp
                simp only [List.mem_cons] at hp
                rcases hp with rfl | rfl | hp
                · exact hb
                · exact frN_ok hd
                · have : ∀ Y, ∀ p ∈ srcH (hg σ.h) Y, hg σ.h p.1 = p.2 := by
                    intro Y; cases Y <;> simp [srcH]
                  exact this _ p hp) (ys := [x, y]) (whN := [k, d]) rfl (by simp only [keys, List.map_cons]; rw [← s3]; rfl) rfl
            · trivial
      · rename_i hx
        intro hfit
        have := ok_appendNil (P := P) (t := σ.den.t) (h := hg σ.h) (d := d) ho (ty_el hel) (ty_el hel') h1 h6.symm hc.2.2.1 h2 (by rw [h6]; exact h3) (by rw [← h7]; exact hc.2.1) (by rw [evL_den]; exact hx) (evL_den σ y) s1 s2 (by rw [← h7]; exact hfit)
        exact outOK_w (P := P) (W := W) (σ := σ) [(x, .val (.slice none 0 0)), (y, evL σ y)] _ [(d, .arr e (ty P e).size xs .own)] this rfl (by simpa using hx) (by
          intro p hp
          simp only [List.mem_cons] at hp
          rcases hp with rfl | hp
          · exact frN_ok hd
          · have : ∀ Y, ∀ p ∈ srcH (hg σ.h) Y, hg σ.h p.1 = p.2 := by
              intro Y; cases Y <;> simp [srcH]
            exact this _ p hp) (ys := [x, y]) (whN := [d]) rfl (by simp only [keys, List.map_cons]; rw [← s3]; rfl) rfl
      · trivial
    · trivial
  · trivial

def oCopyG (P : Program) (e : TypeId) (x y : Operand) (dst : Option Nat) (k i0 len : Nat) (xs : List AV) (ks : List Nat) : Option GE → Out
  | some (.arr e' n els .own) =>
    if e = e' ∧ n = (ty P e).size then
      .req (i0 + len ≤ els.length)
        (.eff ⟨dst, .val (.int .i64 (Nat.min xs.length len)), [(k, .arr e n (els.take i0 ++ xs.take (Nat.min xs.length len) ++ els.drop (i0 + Nat.min xs.length len)) .own)]⟩ ⟨[x, y].flatMap rdN, dN dst, k :: ks, [k]⟩)
    else .fail
  | _ => .fail

def oCopy (P : Program) (σ : AS) (x y : Operand) (dst : Option Nat) : AV → Option TypeId → Option (List AV × Option Nat × List Nat) → Out
  | .gs k i0 len, some e, some (xs, q, ks) => if (ty P e).ok = true ∧ (q = none ∨ q = some (ty P e).size) then oCopyG P e x y dst k i0 len xs ks (hg σ.h k) else .fail
  | _, _, _ => .fail

theorem oCopy_ok {P : Program} {W : World} {σ : AS} {o : Oper} {T U : TypeId} {x y : Operand} (ho : o.op = .call { callee := .builtin .copy, args := #[x, y], argTypes := #[T, U] }) :
    OutOK P W o σ (oCopy P σ x y o.dst (evL σ x) (ty P T).el (srcO σ (evL σ y))) := by
  unfold oCopy
  split
  · rename_i k i0 len e xs q ks hx hel hs
    split
    · rename_i hc
      obtain ⟨dd, i, hdd, hi, he⟩ := ty_ok hc.1
      have hsz : (ty P e).size = i.size := by rw [he, tyD_size]
      obtain ⟨s1, s2, s3⟩ := srcO_ok hs (ty P e).size (fun m hm => by
        rcases hc.2 with h | h
        · rw [h] at hm; cases hm
        · rw [h] at hm; cases hm; rfl)
      cases hb : hg σ.h k with
      | none => simp only [oCopyG]; trivial
      | some g =>
        cases g with
        | box el st => simp only [oCopyG]; trivial
        | arr e2 n els st =>
          cases st <;> simp only [oCopyG] <;> try trivial
          split
          · rename_i hh
            obtain ⟨rfl, rfl⟩ := hh
            intro hle
            have := ok_copy (P := P) (t := σ.den.t) (h := hg σ.h) ho (ty_el hel) hi hsz.symm (by rw [evL_den]; exact hx) (evL_den σ y) hb s1 s2 hle rfl
            exact outOK_w (P := P) (W := W) (σ := σ) [(x, .gs k i0 len), (y, evL σ y)] _ [(k, .arr e (ty P e).size (els.take i0 ++ xs.take (Nat.min xs.length len) ++ els.drop (i0 + Nat.min xs.length len)) .own)] this rfl (by simpa using hx) (by
              intro p hp
              simp only [List.mem_cons] at hp
              rcases hp with rfl | hp
              · exact hb
              · have : ∀ Y, ∀ p ∈ srcH (hg σ.h) Y, hg σ.h p.1 = p.2 := by
                  intro Y; cases Y <;> simp [srcH]
                exact this _ p hp) (ys := [x, y]) (whN := [k]) rfl (by simp only [keys, List.map_cons]; rw [← s3]; rfl) rfl
          · trivial
    · trivial
  · trivial

/-! ### One operation, and a region -/

def bytesA (l : List UInt8) : List AV := l.map fun b => .val (.int .u8 b.toNat)

theorem flats_bytesA : ∀ l : List UInt8, flats (bytesA l) = bytesA l
  | [] => rfl
  | b :: l => by
    have := flats_bytesA l
    simp only [bytesA, List.map_cons, flats, AV.flat] at this ⊢
    rw [this]; rfl

theorem RL_bytesA {β : Nat → Plc} {D I : Nat → Prop} {H : Array Obj} {m : Bool} : ∀ l : List UInt8, RL β D I H m (bytesA l) (l.map fun b => Value.int .u8 b.toNat)
  | [] => .nil _
  | b :: l => .cons (.val _ _) (RL_bytesA l)

theorem ok_strBytes {P : Program} {o : Oper} {t : Nat → AV} {sT dT e : TypeId} {x : Operand} {l : List UInt8} {u : TypeDesc} (ho : o.op = .convert sT dT x) (hs : P.underlying sT = some u) (hd : P.underlying dT = some (.slice e))
    (he : P.underlying e = some (.int .u8)) (hx : evA t x = .str l) (hl : l.length ≤ maxLen) : LocalOK P o { rt := rds [(x, .str l)], rh := [], dst := o.dst, v := .sl 1 (bytesA l) [] } := by
  intro E σ a w K Q hN hr ⟨β, I, r⟩ hk
  have hv := (R_ev r (ev_reads hx (fun q hq => hr.1 q (List.mem_flatMap.2 ⟨(x, .str l), by simp, hq⟩)))).str_inv
  have hsz : (⟨l.toArray⟩ : ByteArray).size = l.length := by simp [ByteArray.size]
  have hrun : (execOp a.eval o).run P w = .ok (.value (.slice (some ⟨w.heap.size, 0, none⟩) l.length (grownCap w l.length 0 e))) (Lib.bytesWorld w e ⟨l.toArray⟩) := by
    have := Lib.run_convert_string_bytes (P := P) w sT dT e ⟨l.toArray⟩ hs hd he
    rw [hsz] at this
    simp [execOp, ho, hv, this]
  unfold Oper.wp
  rw [hrun, Oper.upon_value]
  refine hk _ _ ⟨β, fun b => I b ∨ b = w.heap.size, ?_⟩
  have hb := grownCap_bound (w := w) (old := 0) (e := e) hl
  have hh := Lib.bytesWorld_at_new w e ⟨l.toArray⟩
  have x : Ext I (fun b => I b ∨ b = w.heap.size) w (Lib.bytesWorld w e ⟨l.toArray⟩) := by
    refine ⟨fun b hb => Lib.bytesWorld_at_old w e _ b hb, by rw [Lib.bytesWorld_size]; omega, ?_, ?_, ?_, fun b hb => .inl hb, fun b hb => ?_⟩
    · rfl
    · rfl
    · rfl
    · rw [Lib.bytesWorld_size]
      rcases hb with hb | hb
      · have := r.inv.imm b hb; exact ⟨by omega, fun _ => hb⟩
      · exact ⟨by omega, fun h => by omega⟩
  have hR : R β (dom σ.h) (fun b => I b ∨ b = w.heap.size) (Lib.bytesWorld w e ⟨l.toArray⟩).heap true (.sl 1 (bytesA l) []) (.slice (some ⟨w.heap.size, 0, none⟩) l.length (grownCap w l.length 0 e)) := by
    have hlen : (bytesA l).length = l.length := by simp [bytesA]
    have hb' := hb
    rw [← hlen] at hb' ⊢
    refine .sl (l.map fun b => Value.int .u8 b.toNat) (.inr rfl) rfl hh ?_ (by simp) (by simpa using hb'.1) hb'.2 ?_ ?_ ?_
    · intro y hy; simp only [bytesA, List.mem_map] at hy; obtain ⟨b, _, rfl⟩ := hy; rfl
    · simp only [flats_bytesA, flats, List.append_nil]; exact RL_bytesA l
    · intro v hv; simp only [List.mem_map] at hv; obtain ⟨b, _, rfl⟩ := hv; rfl
    · intro j v hv
      have hj : j < l.length := by have := (List.getElem?_eq_some_iff.1 hv).1; simpa using this
      rw [List.getElem?_map, List.getElem?_eq_getElem hj] at hv
      simp only [Option.map_some, Option.some.injEq] at hv
      subst hv
      simp [Lib.bytesCells, Array.getElem?_append, hj]
  have := r.ext x hN hR
  simpa [SS.upd, hset] using this

def oStrB (sok : Bool) (x : Operand) (dst : Option Nat) : Option IntKind → AV → Out
  | some .u8, .str l => if sok = true then .req (l.length ≤ maxLen) (oV [x] [] dst (.sl 1 (bytesA l) [])) else .fail
  | _, _ => .fail

def oCv (P : Program) (σ : AS) (S T : TypeId) (x : Operand) (dst : Option Nat) : Option TypeId → Out
  | some e => oStrB (ty P S).ok x dst (ty P e).ik (evL σ x)
  | none => oConv (ty P S).ok x dst (ty P T).ik (evL σ x)

theorem oCv_ok {P : Program} {W : World} {σ : AS} {o : Oper} {sT dT : TypeId} {x : Operand} (ho : o.op = .convert sT dT x) : OutOK P W o σ (oCv P σ sT dT x o.dst (ty P dT).el) := by
  cases hel : (ty P dT).el with
  | none => exact oConv_ok ho
  | some e =>
    simp only [oCv]
    unfold oStrB
    split
    · rename_i l hk hx
      split
      · rename_i hs
        intro hl
        obtain ⟨d, i, hd, hi, he⟩ := ty_ok hs
        exact outOK_v [(x, .str l)] [] (ok_strBytes ho hd (ty_el hel) (ty_ik hk) (by rw [evL_den]; exact hx) hl) (by simpa using hx) (by simp) rfl rfl
      · trivial
    · trivial

theorem ok_min {P : Program} {o : Oper} {t : Nat → AV} {T U : TypeId} {x y : Operand} {k j : IntKind} {m n : Int} (ho : o.op = .call { callee := .builtin .min, args := #[x, y], argTypes := #[T, U] })
    (hx : evA t x = .val (.int k m)) (hy : evA t y = .val (.int j n)) : LocalOK P o { rt := rds [(x, .val (.int k m)), (y, .val (.int j n))], rh := [], dst := o.dst, v := .val (.int k (if n < m then n else m)) } :=
  localOKn [(x, .val (.int k m)), (y, .val (.int j n))] [] _ (by simpa using ⟨hx, hy⟩) fun E σ a w β I _ hR _ => by
    have h1 := (hR (x, .val (.int k m)) (by simp)).val_inv
    have h2 := (hR (y, .val (.int j n)) (by simp)).val_inv
    simp only at h1 h2
    exact ⟨.int k (if n < m then n else m), by simp [execOp, ho, resolve, invoke, builtin, h1, h2, Builtin.min_, Builtin.min2], .val _ _⟩

theorem ok_max {P : Program} {o : Oper} {t : Nat → AV} {T U : TypeId} {x y : Operand} {k j : IntKind} {m n : Int} (ho : o.op = .call { callee := .builtin .max, args := #[x, y], argTypes := #[T, U] })
    (hx : evA t x = .val (.int k m)) (hy : evA t y = .val (.int j n)) : LocalOK P o { rt := rds [(x, .val (.int k m)), (y, .val (.int j n))], rh := [], dst := o.dst, v := .val (.int k (if n > m then n else m)) } :=
  localOKn [(x, .val (.int k m)), (y, .val (.int j n))] [] _ (by simpa using ⟨hx, hy⟩) fun E σ a w β I _ hR _ => by
    have h1 := (hR (x, .val (.int k m)) (by simp)).val_inv
    have h2 := (hR (y, .val (.int j n)) (by simp)).val_inv
    simp only at h1 h2
    exact ⟨.int k (if n > m then n else m), by simp [execOp, ho, resolve, invoke, builtin, h1, h2, Builtin.max_, Builtin.max2], .val _ _⟩

def oMin (x y : Operand) (dst : Option Nat) : AV → AV → Out
  | .val (.int k m), .val (.int _ n) => oV [x, y] [] dst (.val (.int k (if n < m then n else m)))
  | _, _ => .fail

def oMax (x y : Operand) (dst : Option Nat) : AV → AV → Out
  | .val (.int k m), .val (.int _ n) => oV [x, y] [] dst (.val (.int k (if n > m then n else m)))
  | _, _ => .fail

theorem oMin_ok {P : Program} {W : World} {σ : AS} {o : Oper} {T U : TypeId} {x y : Operand} (ho : o.op = .call { callee := .builtin .min, args := #[x, y], argTypes := #[T, U] }) : OutOK P W o σ (oMin x y o.dst (evL σ x) (evL σ y)) := by
  unfold oMin
  split
  · rename_i k m j n hx hy
    exact outOK_v [(x, .val (.int k m)), (y, .val (.int j n))] [] (ok_min ho (by rw [evL_den]; exact hx) (by rw [evL_den]; exact hy)) (by simpa using ⟨hx, hy⟩) (by simp) rfl rfl
  · trivial

theorem oMax_ok {P : Program} {W : World} {σ : AS} {o : Oper} {T U : TypeId} {x y : Operand} (ho : o.op = .call { callee := .builtin .max, args := #[x, y], argTypes := #[T, U] }) : OutOK P W o σ (oMax x y o.dst (evL σ x) (evL σ y)) := by
  unfold oMax
  split
  · rename_i k m j n hx hy
    exact outOK_v [(x, .val (.int k m)), (y, .val (.int j n))] [] (ok_max ho (by rw [evL_den]; exact hx) (by rw [evL_den]; exact hy)) (by simpa using ⟨hx, hy⟩) (by simp) rfl rfl
  · trivial

def oBuiltin (P : Program) (σ : AS) (b : Builtin) (dst : Option Nat) : List Operand → List TypeId → Out
  | [x], [T] => match b with | .len => oLen (ty P T) x dst (evL σ x) | _ => .fail
  | [x, y], [T, U] =>
    match b with
    | .append => oApp P σ x y dst (evL σ x) (ty P T).el (ty P U).el (frN σ dst) (srcO σ (evL σ y))
    | .copy => oCopy P σ x y dst (evL σ x) (ty P T).el (srcO σ (evL σ y))
    | .min => oMin x y dst (evL σ x) (evL σ y)
    | .max => oMax x y dst (evL σ x) (evL σ y)
    | _ => .fail
  | _, _ => .fail

def out (P : Program) (σ : AS) (dst : Option Nat) : Op → Out
  | .move x => oV [x] [] dst (evL σ x)
  | .assign x => oV [x] [] dst (evL σ x)
  | .pick c x y => oPick σ c x y dst (evL σ c)
  | .extract x i => oExtract x i dst (evL σ x)
  | .load T x => if (ty P T).ok = true then oLoad (ty P T) σ x dst (evL σ x) else .fail
  | .store T x y => match dst with | none => oStore (ty P T) σ x y (evL σ y) (evL σ x) | some _ => .fail
  | .fieldAddr T x f => oFieldAddr x dst (evL σ x) ((ty P T).fo[f]?)
  | .indexAddr T x ix => oIndexAddr P σ x ix dst (ty P T).el (evL σ x) (evL σ ix)
  | .index T x ix => oIndex (ty P T) x ix dst (evL σ x) (evL σ ix)
  | .slice T x lo hi none => oSlice P σ (ty P T) x lo hi dst (evL σ x) (bI σ lo 0) (bI σ hi (defLen (evL σ x)))
  | .binOp op T x y _ => oBin (ty P T) op x y dst (evL σ x) (evL σ y)
  | .unOp op _ x => oUn op x dst (evL σ x)
  | .convert S T x => oCv P σ S T x dst (ty P T).el
  | .box _ x => oBox x dst (evL σ x) (frN σ dst)
  | .alloc T => oAlloc (ty P T) dst (frN σ dst)
  | .build T ps => oBuild (ty P T) σ ps.toList dst
  | .buildSlice T len ps => oBuildSlice P σ len ps.toList dst (ty P T).el (frN σ dst)
  | .makeSlice T x y => oMakeSlice P x y dst (ty P T).el (frN σ dst) (evL σ x) (evL σ y)
  | .call { callee := .builtin b, args := xs, argTypes := ts } => oBuiltin P σ b dst xs.toList ts.toList
  | .call { callee := .value (.func f), args := xs, argTypes := _ } => .call f (xs.toList.map (evL σ)) (xs.toList.flatMap rdN) dst
  | _ => .fail

theorem arr1 {α : Type} {l : Array α} {x : α} (h : l.toList = [x]) : l = #[x] := by rw [← Array.toArray_toList (xs := l), h]
theorem arr2 {α : Type} {l : Array α} {x y : α} (h : l.toList = [x, y]) : l = #[x, y] := by rw [← Array.toArray_toList (xs := l), h]

theorem out_ok {P : Program} {W : World} {σ : AS} {o : Oper} : OutOK P W o σ (out P σ o.dst o.op) := by
  unfold out
  split
  · exact oMove_ok (.inl ‹_›)
  · exact oMove_ok (.inr ‹_›)
  · exact oPick_ok ‹_›
  · exact oExtract_ok ‹_›
  · split
    · exact oLoad_ok ‹_› ‹_›
    · trivial
  · split
    · rename_i hd; exact oStore_ok ‹_› hd
    · trivial
  · exact oFieldAddr_ok ‹_›
  · exact oIndexAddr_ok ‹_›
  · exact oIndex_ok ‹_›
  · exact oSlice_ok ‹_›
  · exact oBin_ok ‹_›
  · exact oUn_ok ‹_›
  · exact oCv_ok ‹_›
  · exact oBox_ok ‹_›
  · exact oAlloc_ok ‹_›
  · exact oBuild_ok ‹_›
  · exact oBuildSlice_ok ‹_›
  · exact oMakeSlice_ok ‹_›
  · rename_i b xs ts ho
    unfold oBuiltin
    split
    · rename_i x T h1 h2
      rw [arr1 h1, arr1 h2] at ho
      split
      · exact oLen_ok ho
      · trivial
    · rename_i x y T U h1 h2
      rw [arr2 h1, arr2 h2] at ho
      split
      · exact oApp_ok ho
      · exact oCopy_ok ho
      · exact oMin_ok ho
      · exact oMax_ok ho
      · trivial
    · trivial
  · exact ⟨rfl, _, _, ‹_›, rfl, rfl⟩
  · trivial

end Go.Ab

