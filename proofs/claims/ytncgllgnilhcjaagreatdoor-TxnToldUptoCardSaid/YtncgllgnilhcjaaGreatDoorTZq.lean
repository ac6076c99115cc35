/- What is proved: contracts of functions of this translation, walked; their plain meaning. No condition beyond those that each theorem names. -/
import Derived.Test.YtncgllgnilhcjaaGreatDoorMa6
import Derived.Test.YtncgllgnilhcjaaGreatDoorProg
set_option linter.all false
namespace Go.Ac
open Go Go.Proofs
abbrev bt:=Ans.br true
abbrev bf:=Ans.br false
abbrev ee:=Ans.ev 10000000
abbrev aE:=Ans.ev
abbrev oS (x:AV):=Ans.opt (some x)
abbrev cR (r:AV) (h:List (Nat×GE)):=Ans.call (.ret r h)
abbrev gB (x:AV):=GE.box x .own
abbrev eV (h:JH) (l:List JV):=encV (.mk h l)
abbrev sL (n:Nat) (l:List AV):=AV.sl n l []
abbrev d2 (p:Prop) (l:List Prop):=p::p::l
abbrev d3 (p:Prop) (l:List Prop):=p::p::p::l
abbrev d4 (p:Prop) (l:List Prop):=p::p::p::p::l
abbrev d6 (p:Prop) (l:List Prop):=p::p::p::p::p::p::l
noncomputable abbrev MZ (W:World):=MutC Tryz.prog W
noncomputable abbrev LZ (W:World) (kp:List Nat) (f k:Nat):=LoopC Tryz.prog W kp (nslots Tryz.prog f) (loopOf Tryz.prog f k)
noncomputable abbrev sF (W:World) (G:Cfg):=sfun Tryz.prog W G 1000 9
noncomputable abbrev sQ (W:World):=sbodyK Tryz.prog W
theorem zl {φ ph x y} (h:LeP φ ph x y:=by first|exact .top _|exact .eq rfl rfl|exact .nil rfl|exact .same rfl (encV_clo _)|exact .same rfl rfl|exact .same (by rw [hws];rfl) rfl|exact .same (by rw [hwn];rfl) rfl|exact .same (by rw [encVs_len];rfl) rfl|exact .same (by rw [hme];rfl) rfl|exact .same (by rw [hwt];rfl) rfl|exact .same (by rw [hn];rfl) rfl|exact .same (by rw [wrap_succ (by omega)];rfl) rfl|exact .same (by rw [wrap_in (by omega)];rfl) rfl|exact .same (by rw [hme2];rfl) rfl|exact .same (by rw [hme,hme2,hmk];rfl) rfl|exact .same (by rw [List.length_map];rfl) rfl|exact .same rfl hfc|exact .eq (by rw [List.length_append];rfl) rfl|exact .eq (by rw [encVs_len,List.length_append];rfl) rfl|exact .eq (congrArg (AV.gs _ 0) hgl) rfl|exact .same (by rw [hixb,hw1];exact congrArg AV.str (show List.drop (m+1) (List.take u.length u)=_ by rw [List.take_length])) rfl|exact .same (by rw [hN,hwm];rfl) rfl|exact .eq (by rw [hN];rfl) rfl|exact .eq (by rw [hws];rfl) rfl):LeP φ ph x y:=h
theorem zp {φ ph x y} (h:LeP φ ph x y:=by first|exact zl|(refine .aggL ?_;repeat' (first|exact LePL.nil|refine LePL.cons ?_ ?_));all_goals exact zl):LeP φ ph x y:=h
theorem zb {b:Bool} (h:b=true:=by first|rfl|exact encV_clo _|exact encVs_clo _|exact cloL_str _|exact cloL_encV _|assumption|exact hcl|exact padA_clo _ _|exact rep_clo _|(simp only [clo_append,cloL,encVs_clo,cloL_str,cloL_encV,encV_clo,Bool.and_true,Bool.and_self, *];done)):b=true:=h
theorem zt {p:Prop} (h:p:=by and_intros<;>first|exact trivial|exact zp):p:=h
theorem zh {p:Prop} (h:p:=by and_intros<;>first|exact trivial|exact gOK_ph' rfl (by decide) (by simp [encVs])|(refine gOK_box rfl rfl rfl ?_;exact zp)|exact gOK_eq rfl rfl rfl|exact gOK_arr rfl rfl (by first|exact enc_snoc hx|exact takeAll _ _|exact take_snocA _ _|exact pushS _ _|exact push1 _ _ _|exact hset|(rw [hixb,hw0];exact hset)|(rw [hN];exact padA_zero A)|exact push_eq hx|(rw [List.take_length])|(rw [hxx];exact push_eq g1)|exact encVs_push _ _|exact push2 _ _ _|rfl) zb):p:=h
theorem zv {p:Prop} (h:p:=by and_intros<;>first|rfl|exact trivial|exact allN_clo zb|exact allN_cloL zb):p:=h
theorem zd {p:Prop} (h:p:=by first|exact .inl trivial|(exact hc;done)|(exact hc1;done)|(exact hc2;done)|(exact hc3;done)|(exact hc4;done)|(exact hc5;done)|(exact hget;done)|(exact hget2;done)|(exact hget3;done)|(exact hget4;done)|(exact hb1;done)|(exact hb2;done)|(exact hb3;done)|(exact hb4;done)|(exact hlp;done)|(exact hc1';done)|(exact hc2';done)|(exact hsx;done)|(exact hsy;done)|(exact hs1;done)|(exact hs2;done)|(exact ⟨.inl trivial,Nat.le_refl _⟩;done)|(exact Nat.le_refl _;done)|(rw [Int.toNat_natCast];assumption;done)|(exact strs_get hx;done)|(rw [Int.toNat_natCast];exact strs_get hx;done)|(rw [Int.toNat_natCast];exact bytes_get hx;done)|(rw [Int.toNat_natCast,Nat.zero_add];exact padA_get h1;done)|(simp only [hixb,hw0,hw1,hdl];omega;done)|(simp only [hws,hdl];omega;done)|(simp only [hN];omega;done)|(simp only [Bool.not_eq_true',decide_eq_false_iff_not,Bool.not_eq_false',decide_eq_true_eq,List.length_map,encVs_len];first|assumption|omega;done)|(simp only [Bool.not_eq_true',decide_eq_false_iff_not,Bool.not_eq_false',decide_eq_true_eq,List.length_map,encVs_len,List.length_cons,List.length_nil,List.length_append,List.length_take];first|assumption|omega;done)|(rfl;done)|exact trivial|assumption|omega):p:=h
end Go.Ac

