/- What is proved: plain functions of documents, paths and queries; more of how told runs are read. No condition beyond those that each theorem names. -/
import Derived.Test.YtdalodgajiodhaaGreatDoorMa5
import Derived.Lib.Bytealg
set_option linter.all false
namespace Go.Ac
open Go
section
variable {P : Program} {W : World} {f : FuncId}
theorem mut_of_pureFlat {As : List AV} {h : List (Nat × GE)} {r : AV} (hfz : ∀ p ∈ h, hg h p.1 = some p.2 ∧ Frzable p.2) (hb : bigAll h = true) (hcl : cloL (clL h As) = true) (hfl : r.flt = true) (hc : Pure P W f (clL h As) r) : MutC P W f As h (.ret r h) := by
  intro β I w vs hw hlB hi hR
  have ra := rep0H (N := As.length) hi hR (Nat.le_refl _) (bigAll_spec hb)
  obtain ⟨r2, hR2⟩ := args_closed ra (fs := h) (fun p hp => (hfz p hp).1) (fun p hp => (hfz p hp).2) hR (LeL.refl _) hcl
  refine (hc β _ _ w vs hw r2.inv.imm hR2).mono ?_
  rintro e w' ⟨I', v, he, hv, hx⟩
  have hx2 : Ext I (fun b => I b ∨ (I' b ∧ w.heap.size ≤ b)) w w' :=
    ⟨hx.heap, hx.size, hx.os, hx.tape, hx.output, fun b hb => .inl hb, fun b hb => by
      rcases hb with hb | ⟨hb, hle⟩
      · have := ra.inv.imm b hb; have := hx.size; exact ⟨by omega, fun _ => hb⟩
      · exact ⟨(hx.new b hb).1, fun h => by omega⟩⟩
  have rb := ra.ext hx2 (dst := none) (res := r) (v := v) (by intro d hd; cases hd) (hv.flt hfl true)
  obtain ⟨f1, f2, f3, f4, f5, f6, f7, f8, f9⟩ := rb.fr
  exact ⟨β, _, v, he, hv.flt hfl true, rb.inv, ⟨f1, f2, f3, f4, f5, f6, f7, f8, f9⟩⟩
end
def noC : CallF := fun _ _ _ _ => none
def liftS (ds : List (FuncId × List AV)) : Res (XEnd × AS) → Res (XEnd × List (FuncId × List AV) × AS)
  | .ok ((e, σ), as, cs) => .ok ((e, ds, σ), as, cs)
  | .error e => .error e
def stopR (P : Program) (b N : Nat) (ops : List Oper) (draw : Bool) (ds : List (FuncId × List AV)) (σ : AS) (as : List Ans) (cs : List Prop) : Res (XEnd × List (FuncId × List AV) × AS) :=
  match xregT P noC b N ops draw ds σ with
  | some q => .ok (q, as, cs)
  | none => bad 931
def stop (P : Program) (W : World) (G : Cfg) (cf : CallS) (b N : Nat) : Nat → Code → List (FuncId × List AV) → AS → List Ans → List Prop → Res (XEnd × List (FuncId × List AV) × AS)
  | 0, _, _, _, _, _ => bad 930
  | n + 1, .seq x y, ds, σ, as, cs =>
    match stop P W G cf b N n x ds σ as cs with
    | .ok ((.normal, ds1, σ1), as1, cs1) => stop P W G cf b N n y ds1 σ1 as1 cs1
    | r => r
  | n + 1, .region id ops draw, ds, σ, as, cs =>
    match anyDef ops.toList with
    | true => stopR P b N ops.toList draw ds σ as cs
    | false => liftS ds (scode P W G cf (σ.h.map (·.1)) b N (n + 1) (.region id ops draw) σ as cs)
  | n + 1, c, ds, σ, as, cs => liftS ds (scode P W G cf (σ.h.map (·.1)) b N n c σ as cs)
section
variable {P : Program} {W : World} {G : Cfg} {cf : CallS} {b N : Nat}
end
end Go.Ac

namespace Go.Ac
open Go
def cutR (ks : List Nat) : Res (XEnd × AS) → Res (XEnd × AS)
  | .ok ((e, σ), as, cs) => .ok ((e, ⟨keepS ks σ.t, σ.h⟩), as, cs)
  | .error e => .error e
def sbodyK (P : Program) (W : World) (G : Cfg) (f k : Nat) (kp ks : List Nat) (σ : AS) (q : List Ans) : Res (XEnd × AS) := cutR ks (sbodyM P W G f k kp σ q)
theorem body_of_sbodyK {P : Program} {W : World} {G : Cfg} {f k : Nat} {kp ks : List Nat} {σ σ2 σ3 : AS} {q r : List Ans} {e : XEnd} {cs : List Prop} (hm : P.follows .mixedOrders = true) (hx : sbodyK P W G f k kp ks σ q = .ok ((e, σ2), r, cs)) (hc : Holds cs) (φ ph : List (Nat × Nat)) (hp : MatchK kp φ ph σ2 σ3) :
    BodyC P W kp (nslots P f) (loopOf P f k) σ e σ3 := by
  unfold sbodyK cutR at hx
  split at hx
  · rename_i e1 σ1 as cs1 h1
    cases hx
    exact body_sub (SubK.refl _ _) ((scode_ok hm (sfun_ok hm 1000 8) 1000).1 _ σ σ1 e _ _ [] _ h1 hc).2 ((sub_keepS kp ks σ1).trans (sub_match hp))
  · cases hx
end Go.Ac

namespace Go.Ac
open Go
end Go.Ac

namespace Go.Ac
open Go
section
variable {P : Program} {W : World} {f : FuncId}
theorem hg_one {k : Nat} {g : GE} {i : Nat} {g' : GE} (h : hg [(k, g)] i = some g') : i = k ∧ g' = g := by
  simp only [hg] at h
  split at h
  · rename_i e; cases h; exact ⟨e.symm, rfl⟩
  · cases h
theorem hg_self {k : Nat} {g : GE} : hg [(k, g)] k = some g := by simp [hg]
end
end Go.Ac

namespace Go.Ac
open Go
end Go.Ac

namespace Go.Ac
open Go
set_option maxRecDepth 4000
def JV.mem (j : JV) : Nat := if j.items.length < j.names.length then j.items.length else j.names.length
def placeL (s : List UInt8) : List (List UInt8) → Nat → Nat → Int
  | _, 0, _ => -1
  | [], _, _ => -1
  | x :: l, n + 1, i => if x = s then i else placeL s l n (i + 1)
def JV.place (j : JV) (s : List UInt8) : Int := placeL s j.names j.mem 0
theorem pad_get {A : List (List UInt8)} {i n : Nat} (h : i < n) (hn : n ≤ A.length) : ((A.take i).map AV.str ++ List.replicate (n - i) (AV.str []))[i]? = some (.str []) := by
  rw [List.getElem?_append_right (by simp; omega)]
  have e : n - i = (n - (i + 1)) + 1 := by omega
  have e2 : i - ((A.take i).map AV.str).length = 0 := by simp; omega
  rw [e, e2, List.replicate_succ]; rfl
end Go.Ac

namespace Go.Ac
open Go
set_option maxRecDepth 4000
end Go.Ac

namespace Go.Ac
open Go
theorem wrap_succ {i : Nat} (h : i < 2 ^ 62) : IntKind.i64.wrap ((i : Int) + 1) = ((i + 1 : Nat) : Int) := by rw [wrap_in (by omega)]; rfl
end Go.Ac

