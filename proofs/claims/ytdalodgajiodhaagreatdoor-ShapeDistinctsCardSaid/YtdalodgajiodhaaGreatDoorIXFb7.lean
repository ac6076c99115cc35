/- What is proved: contracts of functions of this translation, walked; their plain meaning. No condition beyond those that each theorem names. -/
import Derived.Test.YtdalodgajiodhaaGreatDoorIXFb6
set_option linter.all false
namespace Go.Ac
open Go Go.Proofs
set_option maxRecDepth 10000
set_option maxHeartbeats 1000000
theorem Fb7_z1 {kp f ph σ σ'} (h : MatchK kp f ph σ σ' := by exact ⟨by rfl, (by simp only [S79, S143, Rb, E0, tOK, List.map_cons, List.map_nil, and_true] <;> exact zt), (by simp only [S79, S143, Rb, E0, hOK, List.map_cons, List.map_nil, and_true] <;> exact zh), (by simp only [S79, S143, Rb, E0, liveT, List.map_cons, List.map_nil, and_true] <;> exact zv), (by simp only [S79, S143, Rb, E0, liveH, List.map_cons, List.map_nil, and_true] <;> exact zv)⟩) : MatchK kp f ph σ σ' := h
theorem Fb7_z2 {cs} (h : Holds cs := by simp only [Holds, and_true] <;> and_intros <;> first | exact zd) : Holds cs := h
theorem Fb7_z3 {cs} (h : Holds cs := by simp only [Holds, and_true] <;> and_intros <;> first | exact zd | exact Fb7_z1) : Holds cs := h
def S79 (a b : List (List UInt8)) (i : Nat) : AS := ⟨[(0, .sl 1 (a.map AV.str) []), (1, .sl 1 (b.map AV.str) []), (12, iA a.length), (13, iA i)], []⟩
def S143 (a b : List JV) (i : Nat) : AS := ⟨[(1, .sl 5 (encVs b) []), (2, .val (.func (.func 50) #[] #[])), (15, .sl 5 (encVs a) []), (16, iA a.length), (17, iA i)], []⟩
def Rb (k : Nat) (b : Bool) : AS := ⟨[(k, .val (.bool b))], []⟩
def E0 : AS := ⟨[], []⟩
theorem p100_0 (W : World) (h : JH) (l : List JV) (h2 : JH) (l2 : List JV) (b c : Bool) : sF W { lp := true, tl := [32, 82] } 50 [eV h l, eV h2 l2] [] 100000 [bt, bt, bt, bt, bt, bt, bt, bt, bt, bt, bt, bt, bt, bt, bt, bt, bt, ee, cR (bA b) [], bt, bt, bt, bt, bt, bt, ee, cR (bA c) [], bt, ee] [] = .ok (.ret (bA c) [], [ee], (b = true) :: MZ W 82 [sL 5 (encVs l), sL 5 (encVs l2), .val (Value.func (Fn.func 50) #[] #[])] [] (.ret (bA c) []) :: (b = true) :: (b = true) :: (b = true) :: (b = true) :: (b = true) :: (decide (h.text = h2.text) = true) :: MZ W 32 [sL 1 (List.map AV.str h.names), sL 1 (List.map AV.str h2.names)] [] (.ret (bA b) []) :: (decide (h.text = h2.text) = true) :: (d4 (decide (h.text = h2.text) = true) (d6 (decide (h.int = h2.int) = true) (d6 (decide (h.kind = h2.kind) = true) [])))) := by kernel_rfl
theorem p100_1 (W : World) (h : JH) (l : List JV) (h2 : JH) (l2 : List JV) (b : Bool) : sF W { lp := true, tl := [32, 82] } 50 [eV h l, eV h2 l2] [] 100000 [bt, bt, bt, bt, bt, bt, bt, bt, bt, bt, bt, bt, bt, bt, bt, bt, bt, ee, cR (bA b) [], bt, bf, bf, bf, bf, bf, bf, ee] [] = .ok (.ret (bA false) [], [ee], (b = false) :: (b = false) :: (b = false) :: (b = false) :: (b = false) :: (b = false) :: (decide (h.text = h2.text) = true) :: MZ W 32 [sL 1 (List.map AV.str h.names), sL 1 (List.map AV.str h2.names)] [] (.ret (bA b) []) :: (decide (h.text = h2.text) = true) :: (d4 (decide (h.text = h2.text) = true) (d6 (decide (h.int = h2.int) = true) (d6 (decide (h.kind = h2.kind) = true) [])))) := by kernel_rfl
theorem p100_2 (W : World) (h : JH) (l : List JV) (h2 : JH) (l2 : List JV) : sF W { lp := true, tl := [32, 82] } 50 [eV h l, eV h2 l2] [] 100000 [bt, bt, bt, bt, bt, bt, bt, bt, bt, bt, bt, bt, bf, bf, bf, bf, bf, bf, ee] [] = .ok (.ret (bA false) [], [aE 9999994], d6 (decide (h.text = h2.text) = false) (d6 (decide (h.int = h2.int) = true) (d6 (decide (h.kind = h2.kind) = true) []))) := by kernel_rfl
theorem p100_3 (W : World) (h : JH) (l : List JV) (h2 : JH) (l2 : List JV) : sF W { lp := true, tl := [32, 82] } 50 [eV h l, eV h2 l2] [] 100000 [bt, bt, bt, bt, bt, bt, bf, bf, bf, bf, bf, bf, ee] [] = .ok (.ret (bA false) [], [aE 9999988], d6 (decide (h.int = h2.int) = false) (d6 (decide (h.kind = h2.kind) = true) [])) := by kernel_rfl
theorem p100_4 (W : World) (h : JH) (l : List JV) (h2 : JH) (l2 : List JV) : sF W { lp := true, tl := [32, 82] } 50 [eV h l, eV h2 l2] [] 100000 [bf, bf, bf, bf, bf, bf, ee] [] = .ok (.ret (bA false) [], [aE 9999982], d6 (decide (h.kind = h2.kind) = false) []) := by kernel_rfl
theorem b79_0 (W : World) (a b : List (List UInt8)) (i : Nat) (x y : List UInt8) : sbodyM Tryz.prog W { lp := true } 32 0 [] (S79 a b i) [bt, aE 1, oS (.str x), aE 1, oS (.str y), bt, ee] = .ok ((.ret, { t := [(0, sL 1 (List.map AV.str a)), (1, sL 1 (List.map AV.str b)), (4, bA false), (5, iA (↑i : Int)), (12, iA (↑a.length : Int)), (13, iA (↑i : Int)), (14, bA (decide ((↑i : Int) < (↑a.length : Int)))), (15, iA (↑i : Int)), (16, sL 1 (List.map AV.str a)), (17, iA (↑i : Int)), (18, (AV.str x).ip 0), (19, .str x), (20, sL 1 (List.map AV.str b)), (21, iA (↑i : Int)), (22, (AV.str y).ip 0), (23, .str y), (24, bA (!decide (x = y)))], h := [] }), [ee], [(!decide (x = y)) = true, (List.map AV.str b)[(↑i : Int).toNat]? = some (AV.str y), (List.map AV.str a)[(↑i : Int).toNat]? = some (AV.str x), decide ((↑i : Int) < (↑a.length : Int)) = true]) := by kernel_rfl
theorem b79_1 (W : World) (a b : List (List UInt8)) (i : Nat) (x y : List UInt8) : sQ W { lp := true } 32 0 [] [0, 1, 12, 13] (S79 a b i) [bt, aE 1, oS (.str x), aE 1, oS (.str y), bf, ee] = .ok ((.normal, { t := [(0, sL 1 (List.map AV.str a)), (1, sL 1 (List.map AV.str b)), (12, iA (↑a.length : Int)), (13, iA (IntKind.i64.wrap ((↑i : Int) + 1)))], h := [] }), [ee], [(!decide (x = y)) = false, (List.map AV.str b)[(↑i : Int).toNat]? = some (AV.str y), (List.map AV.str a)[(↑i : Int).toNat]? = some (AV.str x), decide ((↑i : Int) < (↑a.length : Int)) = true]) := by kernel_rfl
theorem b79_2 (W : World) (a b : List (List UInt8)) (i : Nat) : sbodyM Tryz.prog W { lp := true } 32 0 [] (S79 a b i) [bf, ee] = .ok ((.exit 0, { t := [(0, sL 1 (List.map AV.str a)), (1, sL 1 (List.map AV.str b)), (12, iA (↑a.length : Int)), (13, iA (↑i : Int)), (14, bA (decide ((↑i : Int) < (↑a.length : Int))))], h := [] }), [ee], [decide ((↑i : Int) < (↑a.length : Int)) = false]) := by kernel_rfl
theorem b143_0 (W : World) (a b : List JV) (i : Nat) (h : JH) (l : List JV) (h2 : JH) (l2 : List JV) (c : Bool) : sbodyM Tryz.prog W { lp := true, tl := [50] } 82 0 [] (S143 a b i) [bt, aE 1, oS (eV h l), aE 1, oS (eV h2 l2), ee, cR (bA c) [], bt, ee] = .ok ((.ret, { t := [(1, sL 5 (encVs b)), (2, .val (Value.func (Fn.func 50) #[] #[])), (6, bA false), (7, iA (↑i : Int)), (8, .gp 100000 0), (9, .gp 100001 0), (15, sL 5 (encVs a)), (16, iA (↑a.length : Int)), (17, iA (↑i : Int)), (18, bA (decide ((↑i : Int) < (↑a.length : Int)))), (19, iA (↑i : Int)), (20, (eV h l).ip 0), (21, eV h l), (22, sL 5 (encVs b)), (23, iA (↑i : Int)), (24, (eV h2 l2).ip 0), (25, eV h2 l2), (26, .val (Value.func (Fn.func 50) #[] #[])), (27, eV h l), (28, eV h2 l2), (29, bA c), (30, bA (!c))], h := [(100000, gB (eV h l)), (100001, gB (eV h2 l2))] }), [ee], [(!c) = true, MZ W 50 [eV h l, eV h2 l2] [] (.ret (bA c) []), (encVs b)[(↑i : Int).toNat]? = some (eV h2 l2), (encVs a)[(↑i : Int).toNat]? = some (eV h l), decide ((↑i : Int) < (↑a.length : Int)) = true]) := by kernel_rfl
theorem b143_1 (W : World) (a b : List JV) (i : Nat) (h : JH) (l : List JV) (h2 : JH) (l2 : List JV) (c : Bool) : sQ W { lp := true, tl := [50] } 82 0 [] [1, 2, 15, 16, 17] (S143 a b i) [bt, aE 1, oS (eV h l), aE 1, oS (eV h2 l2), ee, cR (bA c) [], bf, ee] = .ok ((.normal, { t := [(1, sL 5 (encVs b)), (2, .val (Value.func (Fn.func 50) #[] #[])), (15, sL 5 (encVs a)), (16, iA (↑a.length : Int)), (17, iA (IntKind.i64.wrap ((↑i : Int) + 1)))], h := [(100000, gB (eV h l)), (100001, gB (eV h2 l2))] }), [ee], [(!c) = false, MZ W 50 [eV h l, eV h2 l2] [] (.ret (bA c) []), (encVs b)[(↑i : Int).toNat]? = some (eV h2 l2), (encVs a)[(↑i : Int).toNat]? = some (eV h l), decide ((↑i : Int) < (↑a.length : Int)) = true]) := by kernel_rfl
theorem b143_2 (W : World) (a b : List JV) (i : Nat) (h : JH) : sbodyM Tryz.prog W { lp := true, tl := [50] } 82 0 [] (S143 a b i) [bf, ee] = .ok ((.exit 0, { t := [(1, sL 5 (encVs b)), (2, .val (Value.func (Fn.func 50) #[] #[])), (15, sL 5 (encVs a)), (16, iA (↑a.length : Int)), (17, iA (↑i : Int)), (18, bA (decide ((↑i : Int) < (↑a.length : Int))))], h := [] }), [ee], [decide ((↑i : Int) < (↑a.length : Int)) = false]) := by kernel_rfl
theorem p79_0 (W : World) (a b : List (List UInt8)) : sF W { lp := true } 32 [.sl 1 (a.map AV.str) [], .sl 1 (b.map AV.str) []] [] 100000 [bt, ee] [] = .ok (.ret (bA false) [], [ee], [(!decide ((↑(List.map AV.str a).length : Int) = (↑(List.map AV.str b).length : Int))) = true]) := by kernel_rfl
theorem p79_1 (W : World) (a b : List (List UInt8)) : sF W { lp := true } 32 [.sl 1 (a.map AV.str) [], .sl 1 (b.map AV.str) []] [] 100000 [bf, ee, .loopM [] [] (S79 a b 0) (.exit 0) E0, ee] [] = .ok (.ret (bA true) [], [ee], [LZ W [] 32 0 (S79 a b 0) (.exit 0) E0, MatchK [] [] [] { t := [(0, sL 1 (List.map AV.str a)), (1, sL 1 (List.map AV.str b)), (12, iA (↑(List.map AV.str a).length : Int)), (13, iA 0)], h := [] } (S79 a b 0), (!decide ((↑(List.map AV.str a).length : Int) = (↑(List.map AV.str b).length : Int))) = false]) := by kernel_rfl
theorem p143_0 (W : World) (a b : List JV) : sF W { lp := true } 82 [.sl 5 (encVs a) [], .sl 5 (encVs b) [], .val (.func (.func 50) #[] #[])] [] 100000 [bt, ee] [] = .ok (.ret (bA false) [], [ee], [(!decide ((↑(encVs a).length : Int) = (↑(encVs b).length : Int))) = true]) := by kernel_rfl
theorem p143_1 (W : World) (a b : List JV) : sF W { lp := true } 82 [.sl 5 (encVs a) [], .sl 5 (encVs b) [], .val (.func (.func 50) #[] #[])] [] 100000 [bf, ee, .loopM [] [] (S143 a b 0) (.exit 0) E0, ee] [] = .ok (.ret (bA true) [], [ee], [LZ W [] 82 0 (S143 a b 0) (.exit 0) E0, MatchK [] [] [] { t := [(1, sL 5 (encVs b)), (2, .val (Value.func (Fn.func 50) #[] #[])), (15, sL 5 (encVs a)), (16, iA (↑(encVs a).length : Int)), (17, iA 0)], h := [] } (S143 a b 0), (!decide ((↑(encVs a).length : Int) = (↑(encVs b).length : Int))) = false]) := by kernel_rfl
theorem q79_1 (W : World) (a b : List (List UInt8)) : sF W { lp := true } 32 [.sl 1 (a.map AV.str) [], .sl 1 (b.map AV.str) []] [] 100000 [bf, ee, .loopM [] [] (S79 a b 0) .ret (Rb 4 false), ee] [] = .ok (.ret (bA false) [], [ee], [LZ W [] 32 0 (S79 a b 0) .ret (Rb 4 false), MatchK [] [] [] { t := [(0, sL 1 (List.map AV.str a)), (1, sL 1 (List.map AV.str b)), (12, iA (↑(List.map AV.str a).length : Int)), (13, iA 0)], h := [] } (S79 a b 0), (!decide ((↑(List.map AV.str a).length : Int) = (↑(List.map AV.str b).length : Int))) = false]) := by kernel_rfl
theorem q143_1 (W : World) (a b : List JV) : sF W { lp := true } 82 [.sl 5 (encVs a) [], .sl 5 (encVs b) [], .val (.func (.func 50) #[] #[])] [] 100000 [bf, ee, .loopM [] [] (S143 a b 0) .ret (Rb 6 false), ee] [] = .ok (.ret (bA false) [], [ee], [LZ W [] 82 0 (S143 a b 0) .ret (Rb 6 false), MatchK [] [] [] { t := [(1, sL 5 (encVs b)), (2, .val (Value.func (Fn.func 50) #[] #[])), (15, sL 5 (encVs a)), (16, iA (↑(encVs a).length : Int)), (17, iA 0)], h := [] } (S143 a b 0), (!decide ((↑(encVs a).length : Int) = (↑(encVs b).length : Int))) = false]) := by kernel_rfl
theorem call100 : callable Tryz.prog 50 = true := by kernel_rfl
theorem call79 : callable Tryz.prog 32 = true := by kernel_rfl
theorem call143 : callable Tryz.prog 82 = true := by kernel_rfl
theorem eq_take {α : Type} {a b : List α} {i : Nat} {x : α} (h : a.take i = b.take i) (hx : a[i]? = some x) (hy : b[i]? = some x) : a.take (i + 1) = b.take (i + 1) := by rw [take_snoc hx, take_snoc hy, h]
open Classical in
noncomputable def eqVs (a b : List JV) : Bool := decide (a = b)
theorem eqVs_true (a : List JV) : eqVs a a = true := by simp [eqVs]
theorem eqVs_false {a b : List JV} (h : a ≠ b) : eqVs a b = false := by simp [eqVs, h]
section
variable (W : World)
theorem loop79 (a : List (List UInt8)) (hl : a.length ≤ 2 ^ 50) : ∀ i : Nat, i ≤ a.length → LoopC Tryz.prog W [] (nslots Tryz.prog 32) (loopOf Tryz.prog 32 0) (S79 a a i) (.exit 0) E0 := by
  refine loopC_inv (fun i : Nat => S79 a a i) (fun i => i ≤ a.length) (fun i => a.length - i) (by simp) ?_
  intro i h1
  by_cases hi : i < a.length
  · obtain ⟨x, hx⟩ := getOf hi
    have hws : IntKind.i64.wrap ((i : Int) + 1) = ((i + 1 : Nat) : Int) := wrap_succ (by omega)
    have hget : (List.map AV.str a)[((i : Int)).toNat]? = some (AV.str x) := by rw [Int.toNat_natCast]; exact strs_get hx
    have hb1 : (!decide (x = x)) = false := by simp
    exact .inl ⟨i + 1, by omega, by omega, body_of_sbodyK mixedz (b79_1 W a a i x x) Fb7_z2 [] [] Fb7_z1⟩
  · have hil : i = a.length := by omega
    subst hil
    exact .inr (body_of_sbodyM mixedz (b79_2 W a a a.length) Fb7_z2 [] [] Fb7_z1)
theorem loopR79 (a b : List (List UInt8)) (hl : a.length ≤ 2 ^ 50) (hs : a.length = b.length) (hne : a ≠ b) : ∀ i : Nat, (i ≤ a.length ∧ a.take i = b.take i) → LoopC Tryz.prog W [] (nslots Tryz.prog 32) (loopOf Tryz.prog 32 0) (S79 a b i) .ret (Rb 4 false) := by
  refine loopC_inv (fun i : Nat => S79 a b i) (fun i => i ≤ a.length ∧ a.take i = b.take i) (fun i => a.length - i) (by simp) ?_
  rintro i ⟨h1, h2⟩
  by_cases hi : i < a.length
  · obtain ⟨x, hx⟩ := getOf hi
    obtain ⟨y, hy⟩ := getOf (l := b) (i := i) (by omega)
    have hws : IntKind.i64.wrap ((i : Int) + 1) = ((i + 1 : Nat) : Int) := wrap_succ (by omega)
    have hget : (List.map AV.str a)[((i : Int)).toNat]? = some (AV.str x) := by rw [Int.toNat_natCast]; exact strs_get hx
    have hget2 : (List.map AV.str b)[((i : Int)).toNat]? = some (AV.str y) := by rw [Int.toNat_natCast]; exact strs_get hy
    by_cases e : x = y
    · have hb1 : (!decide (x = y)) = false := by simp [e]
      exact .inl ⟨i + 1, ⟨by omega, eq_take h2 hx (e ▸ hy)⟩, by omega, body_of_sbodyK mixedz (b79_1 W a b i x y) Fb7_z2 [] [] Fb7_z1⟩
    · have hb1 : (!decide (x = y)) = true := by simp [e]
      exact .inr (body_of_sbodyM mixedz (b79_0 W a b i x y) Fb7_z2 [] [] Fb7_z1)
  · exfalso
    have hil : i = a.length := by omega
    subst hil
    rw [List.take_length, hs, List.take_length] at h2
    exact hne h2
theorem equal79 (a b : List (List UInt8)) (hl : a.length ≤ 2 ^ 50) : Pure Tryz.prog W 32 [.sl 1 (a.map AV.str) [], .sl 1 (b.map AV.str) []] (bA (decide (a = b))) := by
  by_cases hs : a.length = b.length
  · by_cases e : a = b
    · subst e
      have hlp := loop79 W a hl 0 (by omega)
      exact goB (by simp [bA]) rfl (mut_of_sfun mixedz call79 rfl (p79_1 W a a) Fb7_z3)
    · have hlp := loopR79 W a b hl hs e 0 ⟨by omega, by simp⟩
      exact goB (by simp [bA, e]) rfl (mut_of_sfun mixedz call79 rfl (q79_1 W a b) Fb7_z3)
  · have e : a ≠ b := fun e => hs (by rw [e])
    exact goB (by simp [bA, e]) rfl (mut_of_sfun mixedz call79 rfl (p79_0 W a b) Fb7_z2)
theorem loop143 (a : List JV) (hl : a.length ≤ 2 ^ 50) (ih : ∀ x ∈ a, ∀ y, Pure Tryz.prog W 50 [encV x, encV y] (bA (eqV x y))) : ∀ i : Nat, i ≤ a.length → LoopC Tryz.prog W [] (nslots Tryz.prog 82) (loopOf Tryz.prog 82 0) (S143 a a i) (.exit 0) E0 := by
  refine loopC_inv (fun i : Nat => S143 a a i) (fun i => i ≤ a.length) (fun i => a.length - i) (by simp) ?_
  intro i h1
  by_cases hi : i < a.length
  · obtain ⟨x, hx⟩ := getOf hi
    have hws : IntKind.i64.wrap ((i : Int) + 1) = ((i + 1 : Nat) : Int) := wrap_succ (by omega)
    have hget : (encVs a)[((i : Int)).toNat]? = some (encV x) := by rw [Int.toNat_natCast]; exact encVs_get hx
    have hb1 : (!eqV x x) = false := by rw [eqV_true]; rfl
    have hc := mut_of_pure (by simp only [cloL, encV_clo, Bool.and_self]) (ih x (List.mem_of_getElem? hx) x)
    obtain ⟨h2, l2⟩ := x
    exact .inl ⟨i + 1, by omega, by omega, body_of_sbodyK mixedz (b143_1 W a a i h2 l2 h2 l2 _) Fb7_z2 [] [] Fb7_z1⟩
  · have hil : i = a.length := by omega
    subst hil
    exact .inr (body_of_sbodyM mixedz (b143_2 W a a a.length ⟨0, 0, [], []⟩) Fb7_z2 [] [] Fb7_z1)
theorem loopR143 (a b : List JV) (hl : a.length ≤ 2 ^ 50) (hs : a.length = b.length) (hne : a ≠ b) (ih : ∀ x ∈ a, ∀ y, Pure Tryz.prog W 50 [encV x, encV y] (bA (eqV x y))) : ∀ i : Nat, (i ≤ a.length ∧ a.take i = b.take i) → LoopC Tryz.prog W [] (nslots Tryz.prog 82) (loopOf Tryz.prog 82 0) (S143 a b i) .ret (Rb 6 false) := by
  refine loopC_inv (fun i : Nat => S143 a b i) (fun i => i ≤ a.length ∧ a.take i = b.take i) (fun i => a.length - i) (by simp) ?_
  rintro i ⟨h1, h2⟩
  by_cases hi : i < a.length
  · obtain ⟨x, hx⟩ := getOf hi
    obtain ⟨y, hy⟩ := getOf (l := b) (i := i) (by omega)
    have hws : IntKind.i64.wrap ((i : Int) + 1) = ((i + 1 : Nat) : Int) := wrap_succ (by omega)
    have hget : (encVs a)[((i : Int)).toNat]? = some (encV x) := by rw [Int.toNat_natCast]; exact encVs_get hx
    have hget2 : (encVs b)[((i : Int)).toNat]? = some (encV y) := by rw [Int.toNat_natCast]; exact encVs_get hy
    have hc := mut_of_pure (by simp only [cloL, encV_clo, Bool.and_self]) (ih x (List.mem_of_getElem? hx) y)
    by_cases e : x = y
    · have hb1 : (!eqV x y) = false := by rw [e, eqV_true]; rfl
      have h3 := eq_take h2 hx (e ▸ hy)
      obtain ⟨h2, l2⟩ := x
      obtain ⟨h4, l4⟩ := y
      exact .inl ⟨i + 1, ⟨by omega, h3⟩, by omega, body_of_sbodyK mixedz (b143_1 W a b i h2 l2 h4 l4 _) Fb7_z2 [] [] Fb7_z1⟩
    · have hb1 : (!eqV x y) = true := by rw [eqV_false e]; rfl
      obtain ⟨h2, l2⟩ := x
      obtain ⟨h4, l4⟩ := y
      exact .inr (body_of_sbodyM mixedz (b143_0 W a b i h2 l2 h4 l4 _) Fb7_z2 [] [] Fb7_z1)
  · exfalso
    have hil : i = a.length := by omega
    subst hil
    rw [List.take_length, hs, List.take_length] at h2
    exact hne h2
theorem equalF143 (a b : List JV) (hl : a.length ≤ 2 ^ 50) (ih : ∀ x ∈ a, ∀ y, Pure Tryz.prog W 50 [encV x, encV y] (bA (eqV x y))) : Pure Tryz.prog W 82 [.sl 5 (encVs a) [], .sl 5 (encVs b) [], .val (.func (.func 50) #[] #[])] (bA (eqVs a b)) := by
  by_cases hs : a.length = b.length
  · by_cases e : a = b
    · subst e
      have hlp := loop143 W a hl ih 0 (by omega)
      exact goB (by rw [eqVs_true] <;> rfl) rfl (mut_of_sfun mixedz call143 rfl (p143_1 W a a) Fb7_z3)
    · have hlp := loopR143 W a b hl hs e ih 0 ⟨by omega, by simp⟩
      exact goB (by rw [eqVs_false e] <;> rfl) rfl (mut_of_sfun mixedz call143 rfl (q143_1 W a b) Fb7_z3)
  · have e : a ≠ b := fun e => hs (by rw [e])
    exact goB (by rw [eqVs_false e] <;> rfl) rfl (mut_of_sfun mixedz call143 rfl (p143_0 W a b) Fb7_z2)
theorem equal100 : ∀ (n : Nat) (a b : JV), sizeV a < n → cntV a ≤ 2 ^ 30 → Pure Tryz.prog W 50 [encV a, encV b] (bA (eqV a b))
  | 0, a, b, h, _ => by omega
  | n + 1, .mk h l, .mk h2 l2, hn, hcn => by
    have hcnl := cntV_len (.mk h l)
    simp only [JV.names, JV.hd, JV.items] at hcnl
    by_cases e1 : h.kind = h2.kind
    case neg => exact goB (by rw [eqV_false (by rintro e; cases e; exact e1 rfl)] <;> rfl) rfl (mut_of_sfun mixedz call100 rfl (p100_4 W h l h2 l2) Fb7_z2)
    by_cases e2 : h.int = h2.int
    case neg => exact goB (by rw [eqV_false (by rintro e; cases e; exact e2 rfl)] <;> rfl) rfl (mut_of_sfun mixedz call100 rfl (p100_3 W h l h2 l2) Fb7_z2)
    by_cases e3 : h.text = h2.text
    case neg => exact goB (by rw [eqV_false (by rintro e; cases e; exact e3 rfl)] <;> rfl) rfl (mut_of_sfun mixedz call100 rfl (p100_2 W h l h2 l2) Fb7_z2)
    have hc1 := mut_of_pure (by rfl) (equal79 W h.names h2.names (by omega))
    by_cases e4 : h.names = h2.names
    case neg =>
      have hb1 : decide (h.names = h2.names) = false := decide_eq_false e4
      exact goB (by rw [eqV_false (by rintro e; cases e; exact e4 rfl)] <;> rfl) rfl (mut_of_sfun mixedz call100 rfl (p100_1 W h l h2 l2 _) Fb7_z2)
    have hb1 : decide (h.names = h2.names) = true := decide_eq_true e4
    have hc2 := mut_of_pure (by rfl) (equalF143 W l l2 (by omega) fun x hx y => equal100 n x y (by
      obtain ⟨i, hi⟩ := List.getElem?_of_mem hx
      have := sizeV_item (v := .mk h l) hi; omega) (by
      obtain ⟨i, hi⟩ := List.getElem?_of_mem hx
      have := cntV_item (v := .mk h l) hi; omega))
    have ee : eqV (.mk h l) (.mk h2 l2) = eqVs l l2 := by
      have e5 : h = h2 := by obtain ⟨k1, i1, t1, n1⟩ := h; obtain ⟨k2, i2, t2, n2⟩ := h2; cases e1; cases e2; cases e3; cases e4; rfl
      subst e5
      by_cases e : l = l2
      · subst e; rw [eqV_true, eqVs_true]
      · rw [eqV_false (by intro e'; cases e'; exact e rfl), eqVs_false e]
    exact goB (by rw [ee] <;> rfl) rfl (mut_of_sfun mixedz call100 rfl (p100_0 W h l h2 l2 _ _) Fb7_z2)
end
end Go.Ac

