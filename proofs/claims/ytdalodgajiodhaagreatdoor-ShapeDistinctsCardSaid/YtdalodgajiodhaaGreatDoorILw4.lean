/- What is proved: contracts of functions of this translation, walked; their plain meaning. No condition beyond those that each theorem names. -/
import Derived.Test.YtdalodgajiodhaaGreatDoorILw3
set_option linter.all false
namespace Go.Proofs
open Go.RowKit Go.Shelf
attribute [local go_sem] Oper.semAt_some
set_option maxRecDepth 100000
set_option maxHeartbeats 4000000
def BoxF (W : World) (B : Nat) (t : TypeId) (cs : Array Value) : Prop := W.heap[B]? = some (.cells cs t (0, 0))
theorem BoxF.lt {W : World} {B : Nat} {t : TypeId} {cs : Array Value} (h : BoxF W B t cs) : B < W.heap.size := (Array.getElem?_eq_some_iff.1 h).1
theorem BoxF.new (W : World) (t : TypeId) (cs : Array Value) : BoxF (W.alloc (.cells cs t)) W.heap.size t cs := World.alloc_heap_new W _
theorem BoxF.kept {W W' : World} {row : Option Nat} {B : Nat} {t : TypeId} {cs : Array Value} (h : BoxF W B t cs) (hg : W.grownBy W' row) (hne : some B ≠ row) : BoxF W' B t cs := (hg.block B h.lt hne).trans h
theorem BoxF.alloc {W : World} {B : Nat} {t : TypeId} {cs : Array Value} (h : BoxF W B t cs) (o : Obj) : BoxF (W.alloc o) B t cs := h.kept (World.grownBy_alloc W o none) (by simp)
theorem boxF_own {β : Type} (B : Nat) (t : TypeId) (f : β → Array Value) : Own (fun s W => BoxF W B t (f s)) := fun s X Y row hs hg hrow =>
  hs.kept hg (fun e' => by obtain ⟨o, ho, hc⟩ := hrow B e'.symm; rw [show X.heap[B]? = _ from hs] at ho; cases ho; cases hc)
theorem BoxF.cells {W : World} {B : Nat} {t : TypeId} {c0 c1 c2 c3 c4 : Value} (h : BoxF W B t #[c0, c1, c2, c3, c4]) :
    W.cell? ⟨B, 0, none⟩ = some c0 ∧ W.cell? ⟨B, 1, none⟩ = some c1 ∧ W.cell? ⟨B, 2, none⟩ = some c2 ∧ W.cell? ⟨B, 3, none⟩ = some c3 ∧ W.cell? ⟨B, 4, none⟩ = some c4 := by
  have h' : W.heap[B]? = _ := h
  refine ⟨?_, ?_, ?_, ?_, ?_⟩ <;> simp [World.cell?, h']
theorem BoxF.frozen {W : World} {B : Nat} {t : TypeId} {c0 c1 c2 c3 c4 : Value} (h : BoxF W B t #[c0, c1, c2, c3, c4]) :
    W.frozen? ⟨B, 0, none⟩ = false ∧ W.frozen? ⟨B, 1, none⟩ = false ∧ W.frozen? ⟨B, 2, none⟩ = false ∧ W.frozen? ⟨B, 3, none⟩ = false ∧ W.frozen? ⟨B, 4, none⟩ = false := by
  have h' : W.heap[B]? = _ := h
  refine ⟨?_, ?_, ?_, ?_, ?_⟩ <;> simp [World.frozen?, h']
theorem BoxF.set {W : World} {B : Nat} {t : TypeId} {cs : Array Value} (h : BoxF W B t cs) (i : Nat) (v : Value) : BoxF (W.setCell ⟨B, i, none⟩ v) B t (cs.setIfInBounds i v) := by
  obtain ⟨hlt, hk⟩ := Array.getElem?_eq_some_iff.1 h
  show (W.heap.modify B _)[B]? = _
  rw [Array.getElem?_eq_getElem (by rw [Array.size_modify]; exact hlt), Array.getElem_modify_self, hk]
  rfl
theorem BoxF.otherP {W : World} {B : Nat} {t : TypeId} {cs : Array Value} (h : BoxF W B t cs) (p : Addr) (hne : B ≠ p.block) (u : Value) : BoxF (W.setCell p u) B t cs := (Below.heap_setCell W p u B hne).trans h
theorem boxedP {W : World} {B : Nat} {t : TypeId} {v : Value} (h : Boxed W B t v) (p : Addr) (hne : B ≠ p.block) (u : Value) : Boxed (W.setCell p u) B t v := (Below.heap_setCell W p u B hne).trans h
theorem stores7 {W : World} {s : Nat} {a b : Value} {cs : Array Value} (v0 c0 c1 c2 c3 c4 v6 : Value) (hA : Boxed W (s + 1) 3 a) (hY : Boxed W (s + 1 + 1) 4 b) (hB : BoxF W (s + 1 + 1 + 1) 25 cs) (W' : World)
    (hW : W' = (((((((W.setCell ⟨s + 1, 0, none⟩ v0).setCell ⟨s + 1 + 1 + 1, 0, none⟩ c0).setCell ⟨s + 1 + 1 + 1, 1, none⟩ c1).setCell ⟨s + 1 + 1 + 1, 2, none⟩ c2).setCell ⟨s + 1 + 1 + 1, 3, none⟩ c3).setCell ⟨s + 1 + 1 + 1, 4, none⟩ c4).setCell ⟨s + 1 + 1, 0, none⟩ v6).drew) :
    KeepsOthers W W' ∧ (∀ n₀, n₀ ≤ s → Below n₀ W W') ∧ Boxed W' (s + 1) 3 v0 ∧ Boxed W' (s + 1 + 1) 4 v6 ∧ ∃ cs', BoxF W' (s + 1 + 1 + 1) 25 cs' := by
  have e1 : s + 1 ≠ s + 1 + 1 + 1 := by omega
  have e2 : s + 1 ≠ s + 1 + 1 := by omega
  have e3 : s + 1 + 1 ≠ s + 1 + 1 + 1 := by omega
  have k1 := hA.set v0
  have k2 := boxedP hY ⟨s + 1, 0, none⟩ (Ne.symm e2) v0
  have k3 := hB.otherP ⟨s + 1, 0, none⟩ (Ne.symm e1) v0
  generalize hx0 : W.setCell ⟨s + 1, 0, none⟩ v0 = x0 at *
  have k1 := boxedP k1 ⟨s + 1 + 1 + 1, 0, none⟩ e1 c0
  have k2 := boxedP k2 ⟨s + 1 + 1 + 1, 0, none⟩ e3 c0
  have k3 := k3.set 0 c0
  generalize hx1 : x0.setCell ⟨s + 1 + 1 + 1, 0, none⟩ c0 = x1 at *
  have k1 := boxedP k1 ⟨s + 1 + 1 + 1, 1, none⟩ e1 c1
  have k2 := boxedP k2 ⟨s + 1 + 1 + 1, 1, none⟩ e3 c1
  have k3 := k3.set 1 c1
  generalize hx2 : x1.setCell ⟨s + 1 + 1 + 1, 1, none⟩ c1 = x2 at *
  have k1 := boxedP k1 ⟨s + 1 + 1 + 1, 2, none⟩ e1 c2
  have k2 := boxedP k2 ⟨s + 1 + 1 + 1, 2, none⟩ e3 c2
  have k3 := k3.set 2 c2
  generalize hx3 : x2.setCell ⟨s + 1 + 1 + 1, 2, none⟩ c2 = x3 at *
  have k1 := boxedP k1 ⟨s + 1 + 1 + 1, 3, none⟩ e1 c3
  have k2 := boxedP k2 ⟨s + 1 + 1 + 1, 3, none⟩ e3 c3
  have k3 := k3.set 3 c3
  generalize hx4 : x3.setCell ⟨s + 1 + 1 + 1, 3, none⟩ c3 = x4 at *
  have k1 := boxedP k1 ⟨s + 1 + 1 + 1, 4, none⟩ e1 c4
  have k2 := boxedP k2 ⟨s + 1 + 1 + 1, 4, none⟩ e3 c4
  have k3 := k3.set 4 c4
  generalize hx5 : x4.setCell ⟨s + 1 + 1 + 1, 4, none⟩ c4 = x5 at *
  have k1 := boxedP k1 ⟨s + 1 + 1, 0, none⟩ e2 v6
  have k2 := k2.set v6
  have k3 := k3.otherP ⟨s + 1 + 1, 0, none⟩ (Ne.symm e3) v6
  generalize hx6 : x5.setCell ⟨s + 1 + 1, 0, none⟩ v6 = x6 at *
  subst hW
  refine ⟨?_, ?_, k1, k2, _, k3⟩
  · subst hx0 hx1 hx2 hx3 hx4 hx5 hx6
    exact (((((((KeepsOthers.setCell W _ _).trans (KeepsOthers.setCell _ _ _)).trans (KeepsOthers.setCell _ _ _)).trans (KeepsOthers.setCell _ _ _)).trans (KeepsOthers.setCell _ _ _)).trans (KeepsOthers.setCell _ _ _)).trans (KeepsOthers.setCell _ _ _)).trans (KeepsOthers.drew _)
  · intro n₀ hn
    subst hx0 hx1 hx2 hx3 hx4 hx5 hx6
    have q0 : n₀ ≤ s + 1 := by omega
    have q1 : n₀ ≤ s + 1 + 1 := by omega
    have q2 : n₀ ≤ s + 1 + 1 + 1 := by omega
    exact ((((((((Below.refl n₀ W).setCell q0 _).setCell q2 _).setCell q2 _).setCell q2 _).setCell q2 _).setCell q2 _).setCell q1 _).drew
theorem boxE_own {β : Type} (B : Nat) (t : TypeId) (G : β → Array Value → Prop) : Own (fun s W => ∃ cs, BoxF W B t cs ∧ G s cs) := fun s X Y row hs hg hrow => by
  obtain ⟨cs, h1, h2⟩ := hs
  exact ⟨cs, boxF_own B t (fun (_ : Unit) => cs) () X Y row h1 hg hrow, h2⟩
theorem Tryz.chosen77_in (F : Fence) (n : Nat) (h77 : F.fn 77) (h98 : F.fn 98) (hro : F.round = none) (hn : 3 ≤ n) (g : Nat) (Bs n₀ b off cap : Nat) (k0 k1 : Int) (s2 : ByteArray) (a3 : Option Addr) (l3 p3 : Nat) (a4 : Option Addr) (l4 p4 : Nat) (hb : b < n₀)
    (w : World) (hBs : Bs < w.heap.size) (hn₀ : n₀ ≤ w.heap.size) (hc : w.cell? ⟨Bs, 0, none⟩ = some (.slice (some ⟨b, off, none⟩) 1 cap))
    (hc0 : w.cell? ⟨b, off, none⟩ = some (.int .i64 k0)) (hc1 : w.cell? ⟨b, off + 1, none⟩ = some (.int .i64 k1)) (hc2 : w.cell? ⟨b, off + 2, none⟩ = some (.string s2)) (hc3 : w.cell? ⟨b, off + 3, none⟩ = some (.slice a3 l3 p3)) (hc4 : w.cell? ⟨b, off + 4, none⟩ = some (.slice a4 l4 p4)) :
    CallsIn F n Tryz.prog 77 #[.func (.func 98) #[] #[.pointer (some ⟨Bs, 0, none⟩)], .func (.func g) #[] #[]] w fun e W' => e = .returned (.tuple #[.int .i64 0, .bool true]) ∧ Below w.heap.size w W' := by
  have h1 : 1 ≤ n := by omega
  refine callsIn_of_wp_marks Tryz.func77 rfl h77 ?_ hro
  simp only [Tryz.ntmps77, List.size_toArray, List.length_cons, List.length_nil, Nat.reduceAdd, Nat.reduceSub, Array.replicate_succ, Array.replicate_zero, List.push_toArray, List.append_toArray, List.nil_append, List.cons_append]
  gi_wp2
  have bG := (((Boxed.new w 48 (.func (.func g) #[] #[])).alloc (.cells #[.int .i64 0] 3)).alloc (.cells #[.bool false] 4)).alloc (.cells #[Value.int IntKind.i64 0, Value.int IntKind.i64 0, Value.string ⟨#[]⟩, Value.slice none 0 0, Value.slice none 0 0] 25)
  have bA := ((Boxed.new (w.alloc (.cells #[.func (.func g) #[] #[]] 48)) 3 (.int .i64 0)).alloc (.cells #[.bool false] 4)).alloc (.cells #[Value.int IntKind.i64 0, Value.int IntKind.i64 0, Value.string ⟨#[]⟩, Value.slice none 0 0, Value.slice none 0 0] 25)
  have bY := (Boxed.new ((w.alloc (.cells #[.func (.func g) #[] #[]] 48)).alloc (.cells #[.int .i64 0] 3)) 4 (.bool false)).alloc (.cells #[Value.int IntKind.i64 0, Value.int IntKind.i64 0, Value.string ⟨#[]⟩, Value.slice none 0 0, Value.slice none 0 0] 25)
  have bB := BoxF.new (((w.alloc (.cells #[.func (.func g) #[] #[]] 48)).alloc (.cells #[.int .i64 0] 3)).alloc (.cells #[.bool false] 4)) 25 #[Value.int IntKind.i64 0, Value.int IntKind.i64 0, Value.string ⟨#[]⟩, Value.slice none 0 0, Value.slice none 0 0]
  simp only [World.size_alloc] at bA bY bB
  have hB0 : Below w.heap.size w ((((w.alloc (.cells #[.func (.func g) #[] #[]] 48)).alloc (.cells #[.int .i64 0] 3)).alloc (.cells #[.bool false] 4)).alloc (.cells #[Value.int IntKind.i64 0, Value.int IntKind.i64 0, Value.string ⟨#[]⟩, Value.slice none 0 0, Value.slice none 0 0] 25)) :=
    ((((Below.refl _ w).alloc (Nat.le_refl _) _).alloc (by simp) _).alloc (by simp; omega) _).alloc (by simp; omega) _
  have hsz : ((((w.alloc (.cells #[.func (.func g) #[] #[]] 48)).alloc (.cells #[.int .i64 0] 3)).alloc (.cells #[.bool false] 4)).alloc (.cells #[Value.int IntKind.i64 0, Value.int IntKind.i64 0, Value.string ⟨#[]⟩, Value.slice none 0 0, Value.slice none 0 0] 25)).heap.size = w.heap.size + 4 := by simp
  obtain ⟨W0, hW0⟩ : ∃ W0, ((((w.alloc (.cells #[.func (.func g) #[] #[]] 48)).alloc (.cells #[.int .i64 0] 3)).alloc (.cells #[.bool false] 4)).alloc (.cells #[Value.int IntKind.i64 0, Value.int IntKind.i64 0, Value.string ⟨#[]⟩, Value.slice none 0 0, Value.slice none 0 0] 25)) = W0 := ⟨_, rfl⟩
  rw [hW0] at bG bA bY bB hB0 hsz ⊢
  clear hW0
  have hbs : b < w.heap.size := Nat.lt_of_lt_of_le hb hn₀
  refine wpIn_rangeFunc_ownH hro h1 (gf := 98) (lb := #[.pointer (some ⟨Bs, 0, none⟩)]) rfl h98 (enters_of Tryz.func98 (by kernel_rfl) rfl)
    (Tryz.all98_stops F (n - 1) h98 hro (by omega) Bs n₀ b off cap k0 k1 s2 a3 l3 p3 a4 l4 p4 hb W0 (by omega) (by omega) ((hB0.cell (p := ⟨Bs, 0, none⟩) hBs).trans hc)
      ((hB0.cell (p := ⟨b, off, none⟩) hbs).trans hc0) ((hB0.cell (p := ⟨b, off + 1, none⟩) hbs).trans hc1) ((hB0.cell (p := ⟨b, off + 2, none⟩) hbs).trans hc2) ((hB0.cell (p := ⟨b, off + 3, none⟩) hbs).trans hc3) ((hB0.cell (p := ⟨b, off + 4, none⟩) hbs).trans hc4))
    belowK_t (belowK_b (by omega)) (Below.refl _ _) (fun _ => rfl)
    (fun pre W => ((Boxed W (w.heap.size + 1) 3 (.int .i64 0) ∧ Boxed W (w.heap.size + 1 + 1) 4 (.bool (!pre.isEmpty))) ∧ (∃ cs, BoxF W (w.heap.size + 1 + 1 + 1) 25 cs ∧ (pre = [] → cs = #[Value.int IntKind.i64 0, Value.int IntKind.i64 0, Value.string ⟨#[]⟩, Value.slice none 0 0, Value.slice none 0 0]))) ∧ Below w.heap.size w W)
    (fun _ _ _ => False)
    (OwnFrom.and (OwnFrom.and (OwnFrom.and (Own.from (boxed_own _ _ _) _) (Own.from (boxed_own _ _ _) _)) (Own.from (boxE_own _ _ _) _)) (ownFrom_below (Nat.le_refl _) (by omega)))
    (fun _ _ _ _ _ hs _ _ => hs)
    ⟨⟨⟨bA, bY⟩, ⟨_, bB, fun _ => rfl⟩⟩, hB0⟩
    (fun x a' W => ∃ Bx, w.heap.size + 1 + 1 + 1 < Bx ∧ BoxF W Bx 25 #[.int .i64 k0, .int .i64 k1, .string s2, .slice a3 l3 p3, .slice a4 l4 p4] ∧ a' = { tmps := #[.func (.func 98) #[] #[.pointer (some ⟨Bs, 0, none⟩)], .func (.func g) #[] #[], undef, .pointer (some ⟨w.heap.size, 0, none⟩), .int .i64 0, .bool false, .pointer (some ⟨w.heap.size + 1, 0, none⟩), .pointer (some ⟨w.heap.size + 1 + 1, 0, none⟩), .pointer (some ⟨w.heap.size + 1 + 1 + 1, 0, none⟩), .int .i64 0, .pointer (some ⟨Bx, 0, none⟩), .func (.func 98) #[] #[.pointer (some ⟨Bs, 0, none⟩)], .int .i64 0, .agg #[.int .i64 k0, .int .i64 k1, .string s2, .slice a3 l3 p3, .slice a4 l4 p4], undef, undef, undef, undef, undef, undef, undef, undef, undef, undef, undef, undef], defers := [] })
    (fun x a' _ X Y row hs hg hr => by obtain ⟨Bx, h1, h2, h3⟩ := hs; exact ⟨Bx, h1, boxF_own Bx 25 (fun (_ : Unit) => #[.int .i64 k0, .int .i64 k1, .string s2, .slice a3 l3 p3, .slice a4 l4 p4]) () X Y row h2 hg (fun r e => (hr r e).2), h3⟩)
    ?assign ?body ?done ?stop
  case assign =>
    rintro l pre x W K ⟨⟨⟨bA1, bY1⟩, ⟨cs, bB1, bB2⟩⟩, hB1⟩ hK
    gi_wp2
    exact hK _ _ ((KeepsOthers.alloc _ _).from _) ((Below.refl _ W).alloc (Nat.le_trans hn₀ hB1.size) _) ⟨⟨⟨bA1.alloc _, bY1.alloc _⟩, ⟨cs, bB1.alloc _, bB2⟩⟩, hB1.alloc hB1.size _⟩ ⟨W.heap.size, bB1.lt, BoxF.new W 25 _, rfl⟩
  case body =>
    rintro l pre x a' W hl ⟨r, hr⟩ ⟨⟨⟨bA1, bY1⟩, ⟨cs, bB1, bB2⟩⟩, hB1⟩ ⟨Bx, hBx, bX, rfl⟩ hlt
    obtain rfl : pre = [] := List.length_eq_zero_iff.1 (by omega)
    obtain rfl := bB2 rfl
    have cA := bA1.cell
    have fA := bA1.frozen
    have cY := bY1.cell
    have fY := bY1.frozen
    obtain ⟨x0, x1, x2, x3, x4⟩ := bX.cells
    obtain ⟨y0, y1, y2, y3, y4⟩ := BoxF.cells (c0 := .int .i64 0) bB1
    obtain ⟨f0, f1, f2, f3, f4⟩ := BoxF.frozen (c0 := .int .i64 0) bB1
    simp only [List.isEmpty_nil, Bool.not_true] at cY
    gi_wp2
    all_goals (refine ⟨fun _ h => (by cases h), ?_⟩)
    all_goals gi_wp2
    gi_region
    all_goals gi_wp2
    all_goals (
      obtain ⟨p1, p2, p3, p4, cs', p5⟩ := stores7 (.int .i64 0) (.int .i64 k0) (.int .i64 k1) (.string s2) (.slice a3 l3 p3) (.slice a4 l4 p4) (.bool true) bA1 bY1 bB1 _ rfl
      exact ⟨p1.from _, p2 _ hn₀, ⟨⟨p3, p4⟩, ⟨cs', p5, fun h => by cases h⟩⟩, hB1.trans (p2 _ (Nat.le_refl _))⟩)
  case done =>
    rintro D zs W hD hS ⟨⟨⟨bA1, bY1⟩, _⟩, hB1⟩ hK
    have cA := bA1.cell
    have cY := bY1.cell
    obtain ⟨z, rfl⟩ : ∃ z, zs = [z] := List.length_eq_one_iff.1 hS
    simp only [List.isEmpty_cons, Bool.not_false] at cY
    gi_wp2
    gi_region
    all_goals gi_wp2
    all_goals (
      have hKd : W.drew.heap[D]? = some (.deferred (some [])) := hK
      refine ⟨by simp, .inl ⟨_, _, rfl, run_takeDeferred hKd, ?_⟩⟩
      refine ⟨.tuple #[.int .i64 0, .bool true], ?_, rfl, hB1.drew.trans (belowK_b (w := w) (Nat.le_refl _) W.drew D _ _ (by omega) hKd rfl rfl)⟩
      simp [results, Tryz.f77, go_sem])
  case stop =>
    rintro D c pre W _ _ h _
    exact h.elim
end Go.Proofs

