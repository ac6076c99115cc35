/- What is proved: contracts of functions of this translation, walked; their plain meaning. No condition beyond those that each theorem names. -/
import Derived.Test.YtncgllgnilhcjaaGreatDoorRdTryz
import Derived.Test.YtncgllgnilhcjaaGreatDoorMb4
set_option linter.all false
set_option maxRecDepth 100000
namespace Go.Proofs.YtncgllgnilhcjaaGreatDoor
open Go Go.Ac Go.RowKit Go.ChangeShapes Go.WideShapes Go.ChangeAt
theorem ks_cons {K : AV → Prop} {Ks : List (AV → Prop)} {l : List AV} (h : KsOf (K :: Ks) l) : ∃ a r, K a ∧ KsOf Ks r ∧ l = a :: r := by
  cases h with
  | cons h1 h2 => exact ⟨_, _, h1, h2, rfl⟩
theorem ks_nil {l : List AV} (h : KsOf [] l) : l = [] := by cases h; rfl
def IsSlc (a : AV) : Prop := ∃ b n c, a = .val (.slice b n c)
def IsItem (a : AV) : Prop := ∃ (s : List UInt8) (n : Int) (v : JV), a = .agg ([.str s, iA n] ++ (encV v).flat) ∧ okV v
def IsReq (a : AV) : Prop := ∃ r : RQ, a = reqA r ∧ okV (.mk r.vh r.vl) ∧ okV (.mk r.oh r.ol) ∧ okV (.mk r.fh r.fl) ∧ okV (.mk r.gh r.gl)
def IsOut (a : AV) : Prop := ∃ o : OC, a = outA o ∧ okV (.mk o.wh o.wl) ∧ okV (.mk o.xh o.xl)
theorem isItem_of {l : List AV} (h : KsOf [IsStr, IsInt .i64, IsVal] l) : IsItem (.agg (flats l)) := by
  obtain ⟨a0, q0, k0, g0, rfl⟩ := ks_cons h
  obtain ⟨a1, q1, k1, g1, rfl⟩ := ks_cons g0
  obtain ⟨a2, q2, k2, g2, rfl⟩ := ks_cons g1
  obtain rfl := ks_nil g2
  clear h
  obtain ⟨s0, rfl, _⟩ := k0
  obtain ⟨n1, rfl, _⟩ := k1
  obtain ⟨⟨h2, l2⟩, rfl, o2⟩ := k2
  exact ⟨s0, n1, .mk h2 l2, rfl, o2⟩
theorem isReq_of {l : List AV} (h : KsOf [IsInt .i64, IsStr, IsStr, IsVal, IsInt .i64, IsVal, IsVal, IsBool, IsBool, IsVal, IsVal, IsVal, IsInt .i64, IsInt .i64, IsStr, IsVal, IsInt .i64, IsSlc, IsInt .i64, IsInt .i64, IsInt .i64, IsInt .i64, IsVal, IsStr, IsBool] l) : IsReq (.agg (flats l)) := by
  obtain ⟨a0, q0, k0, g0, rfl⟩ := ks_cons h
  obtain ⟨a1, q1, k1, g1, rfl⟩ := ks_cons g0
  obtain ⟨a2, q2, k2, g2, rfl⟩ := ks_cons g1
  obtain ⟨a3, q3, k3, g3, rfl⟩ := ks_cons g2
  obtain ⟨a4, q4, k4, g4, rfl⟩ := ks_cons g3
  obtain ⟨a5, q5, k5, g5, rfl⟩ := ks_cons g4
  obtain ⟨a6, q6, k6, g6, rfl⟩ := ks_cons g5
  obtain ⟨a7, q7, k7, g7, rfl⟩ := ks_cons g6
  obtain ⟨a8, q8, k8, g8, rfl⟩ := ks_cons g7
  obtain ⟨a9, q9, k9, g9, rfl⟩ := ks_cons g8
  obtain ⟨a10, q10, k10, g10, rfl⟩ := ks_cons g9
  obtain ⟨a11, q11, k11, g11, rfl⟩ := ks_cons g10
  obtain ⟨a12, q12, k12, g12, rfl⟩ := ks_cons g11
  obtain ⟨a13, q13, k13, g13, rfl⟩ := ks_cons g12
  obtain ⟨a14, q14, k14, g14, rfl⟩ := ks_cons g13
  obtain ⟨a15, q15, k15, g15, rfl⟩ := ks_cons g14
  obtain ⟨a16, q16, k16, g16, rfl⟩ := ks_cons g15
  obtain ⟨a17, q17, k17, g17, rfl⟩ := ks_cons g16
  obtain ⟨a18, q18, k18, g18, rfl⟩ := ks_cons g17
  obtain ⟨a19, q19, k19, g19, rfl⟩ := ks_cons g18
  obtain ⟨a20, q20, k20, g20, rfl⟩ := ks_cons g19
  obtain ⟨a21, q21, k21, g21, rfl⟩ := ks_cons g20
  obtain ⟨a22, q22, k22, g22, rfl⟩ := ks_cons g21
  obtain ⟨a23, q23, k23, g23, rfl⟩ := ks_cons g22
  obtain ⟨a24, q24, k24, g24, rfl⟩ := ks_cons g23
  obtain rfl := ks_nil g24
  clear h
  obtain ⟨n0, rfl, _⟩ := k0
  obtain ⟨s1, rfl, _⟩ := k1
  obtain ⟨s2, rfl, _⟩ := k2
  obtain ⟨⟨h3, l3⟩, rfl, o3⟩ := k3
  obtain ⟨n4, rfl, _⟩ := k4
  obtain ⟨⟨h5, l5⟩, rfl, o5⟩ := k5
  obtain ⟨⟨h6, l6⟩, rfl, o6⟩ := k6
  obtain ⟨b7, rfl⟩ := k7
  obtain ⟨b8, rfl⟩ := k8
  obtain ⟨⟨h9, l9⟩, rfl, o9⟩ := k9
  obtain ⟨⟨h10, l10⟩, rfl, o10⟩ := k10
  obtain ⟨⟨h11, l11⟩, rfl, o11⟩ := k11
  obtain ⟨n12, rfl, _⟩ := k12
  obtain ⟨n13, rfl, _⟩ := k13
  obtain ⟨s14, rfl, _⟩ := k14
  obtain ⟨⟨h15, l15⟩, rfl, o15⟩ := k15
  obtain ⟨n16, rfl, _⟩ := k16
  obtain ⟨sb, sn, sc, rfl⟩ := k17
  obtain ⟨n18, rfl, _⟩ := k18
  obtain ⟨n19, rfl, _⟩ := k19
  obtain ⟨n20, rfl, _⟩ := k20
  obtain ⟨n21, rfl, _⟩ := k21
  obtain ⟨⟨h22, l22⟩, rfl, o22⟩ := k22
  obtain ⟨s23, rfl, _⟩ := k23
  obtain ⟨b24, rfl⟩ := k24
  exact ⟨⟨n0, s1, s2, h3, l3, n4, h5, l5, h6, l6, b7, b8, h9, l9, h10, l10, h11, l11, n12, n13, s14, h15, l15, n16, sb, sn, sc, n18, n19, n20, n21, h22, l22, s23, b24⟩, rfl, o3, o5, o6, o9⟩
theorem isOut_of {l : List AV} (h : KsOf [IsInt .i64, IsItem, IsBool, IsItem, IsBool, IsBool, IsBool] l) : IsOut (.agg (flats l)) := by
  obtain ⟨a0, q0, k0, g0, rfl⟩ := ks_cons h
  obtain ⟨a1, q1, k1, g1, rfl⟩ := ks_cons g0
  obtain ⟨a2, q2, k2, g2, rfl⟩ := ks_cons g1
  obtain ⟨a3, q3, k3, g3, rfl⟩ := ks_cons g2
  obtain ⟨a4, q4, k4, g4, rfl⟩ := ks_cons g3
  obtain ⟨a5, q5, k5, g5, rfl⟩ := ks_cons g4
  obtain ⟨a6, q6, k6, g6, rfl⟩ := ks_cons g5
  obtain rfl := ks_nil g6
  clear h
  obtain ⟨n0, rfl, _⟩ := k0
  obtain ⟨i1, v1, ⟨h1, l1⟩, rfl, o1⟩ := k1
  obtain ⟨b2, rfl⟩ := k2
  obtain ⟨i3, v3, ⟨h3, l3⟩, rfl, o3⟩ := k3
  obtain ⟨b4, rfl⟩ := k4
  obtain ⟨b5, rfl⟩ := k5
  obtain ⟨b6, rfl⟩ := k6
  exact ⟨⟨n0, i1, v1, h1, l1, b2, i3, v3, h3, l3, b4, b5, b6⟩, rfl, o1, o3⟩
section
variable {H : Type} {enc : TypeId × Value → H} {w : World} {held : Bool}
theorem rd_slc {n : Nat} {t e : TypeId} (ht : Tryz.prog.underlying t = some (.slice e)) (hc : Tryz.prog.cellsOf t = 1) : RdF Rows.uptoBulk enc Tryz.prog w held n t IsSlc := by
  intro cs d ps h hz
  rcases DataW.trod_slice ht h with ⟨rfl, hx⟩ | ⟨a, len, cap, elems, rest, m, hn, rfl, hx, _⟩
  · exact ⟨.val (.slice none 0 0), ⟨_, _, _, rfl⟩, rfl, fun _ _ => .cons (.val _ _) (.nil _), by rw [hc]; rfl, fun v hv => by simp at hv; subst hv; rfl, Nat.zero_le _⟩
  · exact ⟨.val (.slice (some a) len cap), ⟨_, _, _, rfl⟩, rfl, fun _ _ => .cons (.val _ _) (.nil _), by rw [hc]; rfl, fun v hv => by simp at hv; subst hv; rfl, Nat.zero_le _⟩
theorem rd_item (n : Nat) : RdF Rows.uptoBulk enc Tryz.prog w held n 31 IsItem := by
  refine (rd_struct bk (Ks := [IsStr, IsInt .i64, IsVal]) Tryz.underlying31 (by kernel_rfl) (by kernel_rfl) rfl fun m hm i u K hu hK => ?_).mono fun a ⟨l, e, h⟩ => e ▸ isItem_of h
  match i, hu, hK with
  | 0, hu, hK => cases hu; cases hK; exact rd_str bk Tryz.underlying9 (by kernel_rfl)
  | 1, hu, hK => cases hu; cases hK; exact rd_int Tryz.underlying2 (by kernel_rfl)
  | 2, hu, hK => cases hu; cases hK; exact rd_val m
  | i + 3, hu, hK => simp at hK
theorem rd_req (n : Nat) : RdF Rows.uptoBulk enc Tryz.prog w held n 28 IsReq := by
  refine (rd_struct bk (Ks := [IsInt .i64, IsStr, IsStr, IsVal, IsInt .i64, IsVal, IsVal, IsBool, IsBool, IsVal, IsVal, IsVal, IsInt .i64, IsInt .i64, IsStr, IsVal, IsInt .i64, IsSlc, IsInt .i64, IsInt .i64, IsInt .i64, IsInt .i64, IsVal, IsStr, IsBool]) Tryz.underlying28 (by kernel_rfl) (by kernel_rfl) rfl fun m hm i u K hu hK => ?_).mono fun a ⟨l, e, h⟩ => e ▸ isReq_of h
  match i, hu, hK with
  | 0, hu, hK => cases hu; cases hK; exact rd_int Tryz.underlying3 (by kernel_rfl)
  | 1, hu, hK => cases hu; cases hK; exact rd_str bk Tryz.underlying9 (by kernel_rfl)
  | 2, hu, hK => cases hu; cases hK; exact rd_str bk Tryz.underlying9 (by kernel_rfl)
  | 3, hu, hK => cases hu; cases hK; exact rd_val m
  | 4, hu, hK => cases hu; cases hK; exact rd_int Tryz.underlying2 (by kernel_rfl)
  | 5, hu, hK => cases hu; cases hK; exact rd_val m
  | 6, hu, hK => cases hu; cases hK; exact rd_val m
  | 7, hu, hK => cases hu; cases hK; exact rd_bool Tryz.underlying4 (by kernel_rfl)
  | 8, hu, hK => cases hu; cases hK; exact rd_bool Tryz.underlying4 (by kernel_rfl)
  | 9, hu, hK => cases hu; cases hK; exact rd_val m
  | 10, hu, hK => cases hu; cases hK; exact rd_val m
  | 11, hu, hK => cases hu; cases hK; exact rd_val m
  | 12, hu, hK => cases hu; cases hK; exact rd_int Tryz.underlying2 (by kernel_rfl)
  | 13, hu, hK => cases hu; cases hK; exact rd_int Tryz.underlying2 (by kernel_rfl)
  | 14, hu, hK => cases hu; cases hK; exact rd_str bk Tryz.underlying9 (by kernel_rfl)
  | 15, hu, hK => cases hu; cases hK; exact rd_val m
  | 16, hu, hK => cases hu; cases hK; exact rd_int Tryz.underlying2 (by kernel_rfl)
  | 17, hu, hK => cases hu; cases hK; exact rd_slc Tryz.underlying26 (by kernel_rfl)
  | 18, hu, hK => cases hu; cases hK; exact rd_int Tryz.underlying3 (by kernel_rfl)
  | 19, hu, hK => cases hu; cases hK; exact rd_int Tryz.underlying2 (by kernel_rfl)
  | 20, hu, hK => cases hu; cases hK; exact rd_int Tryz.underlying2 (by kernel_rfl)
  | 21, hu, hK => cases hu; cases hK; exact rd_int Tryz.underlying2 (by kernel_rfl)
  | 22, hu, hK => cases hu; cases hK; exact rd_val m
  | 23, hu, hK => cases hu; cases hK; exact rd_str bk Tryz.underlying9 (by kernel_rfl)
  | 24, hu, hK => cases hu; cases hK; exact rd_bool Tryz.underlying4 (by kernel_rfl)
  | i + 25, hu, hK => simp at hK
theorem rd_out (n : Nat) : RdF Rows.uptoBulk enc Tryz.prog w held n 33 IsOut := by
  refine (rd_struct bk (Ks := [IsInt .i64, IsItem, IsBool, IsItem, IsBool, IsBool, IsBool]) Tryz.underlying33 (by kernel_rfl) (by kernel_rfl) rfl fun m hm i u K hu hK => ?_).mono fun a ⟨l, e, h⟩ => e ▸ isOut_of h
  match i, hu, hK with
  | 0, hu, hK => cases hu; cases hK; exact rd_int Tryz.underlying29 (by kernel_rfl)
  | 1, hu, hK => cases hu; cases hK; exact rd_item m
  | 2, hu, hK => cases hu; cases hK; exact rd_bool Tryz.underlying4 (by kernel_rfl)
  | 3, hu, hK => cases hu; cases hK; exact rd_item m
  | 4, hu, hK => cases hu; cases hK; exact rd_bool Tryz.underlying4 (by kernel_rfl)
  | 5, hu, hK => cases hu; cases hK; exact rd_bool Tryz.underlying4 (by kernel_rfl)
  | 6, hu, hK => cases hu; cases hK; exact rd_bool Tryz.underlying4 (by kernel_rfl)
  | i + 7, hu, hK => simp at hK
end
theorem req_names (r : RQ) : ∀ s ∈ r.gh.names, s.length ≤ bl (reqA r) := fun s hs => by
  have h1 := blL_strN r.gh.names s hs
  have h2 : bl (.sl 1 (r.gh.names.map AV.str) []) ≤ bl (reqA r) := by
    unfold reqA
    simp only [bl, bl.blL]
    omega
  simp only [bl] at h2
  omega
theorem arg_req {H : Type} {enc : TypeId × Value → H} {W : World} {base : Nat} {v : Value} {d : DataW H} {ps : List MemPlace} (hval : Value.okWide Tryz.prog W .any base 28 v) (h : DataW.Trod enc Tryz.prog W 0 (fun _ => true) true 28 v d ps)
    (hz : ∀ z ∈ d.weights Tryz.prog 28, z ≤ reachBytes) : ∃ r : RQ, okV (.mk r.vh r.vl) ∧ okV (.mk r.oh r.ol) ∧ okV (.mk r.fh r.fl) ∧ okV (.mk r.gh r.gl) ∧ bl (reqA r) ≤ Rows.uptoBulk d ∧ ∀ (β : Nat → Plc) (D : Nat → Prop), R β D (fun b => b < W.heap.size) W.heap false (reqA r) v := by
  obtain ⟨cs, rfl, _⟩ := okWide_struct Tryz.underlying28 hval
  obtain ⟨a, ⟨r, rfl, h1, h2, h3, h4⟩, hc, hb, hR⟩ := rd_argS (fun n => rd_req n) h hz (by rintro a ⟨j, rfl, _⟩; rfl)
  exact ⟨r, h1, h2, h3, h4, hb, hR⟩
theorem arg_out {H : Type} {enc : TypeId × Value → H} {W : World} {base : Nat} {v : Value} {d : DataW H} {ps : List MemPlace} (hval : Value.okWide Tryz.prog W .any base 33 v) (h : DataW.Trod enc Tryz.prog W 0 (fun _ => true) true 33 v d ps)
    (hz : ∀ z ∈ d.weights Tryz.prog 33, z ≤ reachBytes) : ∃ o : OC, okV (.mk o.wh o.wl) ∧ okV (.mk o.xh o.xl) ∧ ∀ (β : Nat → Plc) (D : Nat → Prop), R β D (fun b => b < W.heap.size) W.heap false (outA o) v := by
  obtain ⟨cs, rfl, _⟩ := okWide_struct Tryz.underlying33 hval
  obtain ⟨a, ⟨o, rfl, h1, h2⟩, hc, hb, hR⟩ := rd_argS (fun n => rd_out n) h hz (by rintro a ⟨j, rfl, _⟩; rfl)
  exact ⟨o, h1, h2, hR⟩
def reqW : Value := .agg #[.int .i64 0, .string ⟨#[]⟩, .string ⟨#[]⟩, .int .i64 0, .int .i64 0, .string ⟨#[]⟩, .slice none 0 0, .slice none 0 0, .int .i64 0, .int .i64 0, .int .i64 0, .string ⟨#[]⟩, .slice none 0 0, .slice none 0 0, .int .i64 0, .int .i64 0, .string ⟨#[]⟩, .slice none 0 0, .slice none 0 0, .bool false, .bool false, .int .i64 0, .int .i64 0, .string ⟨#[]⟩, .slice none 0 0, .slice none 0 0, .int .i64 0, .int .i64 0, .string ⟨#[]⟩, .slice none 0 0, .slice none 0 0, .int .i64 0, .int .i64 0, .string ⟨#[]⟩, .slice none 0 0, .slice none 0 0, .int .i64 0, .int .i64 0, .string ⟨#[]⟩, .int .i64 0, .int .i64 0, .string ⟨#[]⟩, .slice none 0 0, .slice none 0 0, .int .i64 0, .slice none 0 0, .int .i64 0, .int .i64 0, .int .i64 0, .int .i64 0, .int .i64 0, .int .i64 0, .string ⟨#[]⟩, .slice none 0 0, .slice none 0 0, .string ⟨#[]⟩, .bool false]
def outW : Value := .agg #[.int .i64 0, .string ⟨#[]⟩, .int .i64 0, .int .i64 0, .int .i64 0, .string ⟨#[]⟩, .slice none 0 0, .slice none 0 0, .bool false, .string ⟨#[]⟩, .int .i64 0, .int .i64 0, .int .i64 0, .string ⟨#[]⟩, .slice none 0 0, .slice none 0 0, .bool false, .bool false, .bool false]
def reqD {H : Type} : DataW H := .agg [.lit (.int .i64 0), .lit (.string []), .lit (.string []), .agg [.lit (.int .i64 0), .lit (.int .i64 0), .lit (.string []), .nil, .nil], .lit (.int .i64 0), .agg [.lit (.int .i64 0), .lit (.int .i64 0), .lit (.string []), .nil, .nil], .agg [.lit (.int .i64 0), .lit (.int .i64 0), .lit (.string []), .nil, .nil], .lit (.bool false), .lit (.bool false), .agg [.lit (.int .i64 0), .lit (.int .i64 0), .lit (.string []), .nil, .nil], .agg [.lit (.int .i64 0), .lit (.int .i64 0), .lit (.string []), .nil, .nil], .agg [.lit (.int .i64 0), .lit (.int .i64 0), .lit (.string []), .nil, .nil], .lit (.int .i64 0), .lit (.int .i64 0), .lit (.string []), .agg [.lit (.int .i64 0), .lit (.int .i64 0), .lit (.string []), .nil, .nil], .lit (.int .i64 0), .nil, .lit (.int .i64 0), .lit (.int .i64 0), .lit (.int .i64 0), .lit (.int .i64 0), .agg [.lit (.int .i64 0), .lit (.int .i64 0), .lit (.string []), .nil, .nil], .lit (.string []), .lit (.bool false)]
def outD {H : Type} : DataW H := .agg [.lit (.int .i64 0), .agg [.lit (.string []), .lit (.int .i64 0), .agg [.lit (.int .i64 0), .lit (.int .i64 0), .lit (.string []), .nil, .nil]], .lit (.bool false), .agg [.lit (.string []), .lit (.int .i64 0), .agg [.lit (.int .i64 0), .lit (.int .i64 0), .lit (.string []), .nil, .nil]], .lit (.bool false), .lit (.bool false), .lit (.bool false)]
noncomputable def startH (os : Os) : World :=
  { startW os with heap := (startW os).heap.modify 0 fun
      | .cells _ t frozen => .cells #[.iface 237 (.agg #[.pointer (some ⟨9, 116, none⟩)])] t frozen
      | o => o }
end Go.Proofs.YtncgllgnilhcjaaGreatDoor

