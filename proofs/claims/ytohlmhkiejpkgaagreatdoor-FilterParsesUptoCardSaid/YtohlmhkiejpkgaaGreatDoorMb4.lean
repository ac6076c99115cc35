/- What is proved: contracts of functions of this translation, walked; their plain meaning. No condition beyond those that each theorem names. -/
import Derived.Test.YtohlmhkiejpkgaaGreatDoorMb3
import Derived.Test.YtohlmhkiejpkgaaGreatDoorMb1
import Derived.Test.YtohlmhkiejpkgaaGreatDoorMa6
set_option linter.all false
namespace Go.Ac
open Go Go.Proofs
set_option maxRecDepth 10000
set_option maxHeartbeats 1000000
theorem Fb16_z1 {cs} (h:Holds cs:=by simp only [Holds,and_true]<;>and_intros<;>first|exact zd):Holds cs:=h
def opR (n:Nat) (nm:List UInt8) (x:JV) (d t:Int):Except Int Int:=if (!isOp nm)=true then .error 41 else if (!takesB nm x)=true then .error 42 else if nm=sNot then chkT n x (d+1) t else if nm=sElem then (if (isTestB x && !joinsB (firstS x))=true then chkT n x (d+1) t else chkQ n x (d+1) t) else .ok t
theorem opR_pl {n:Nat} {nm:List UInt8} {x:JV} {d t:Int} (hop:isOp nm=true) (h1:nm ≠ sNot) (h2:nm ≠ sElem):opR n nm x d t=if takesB nm x=true then .ok t else .error 42:=by
 unfold opR
 rw [if_neg (by rw [hop];decide)]
 by_cases q:takesB nm x=true
 ·rw [if_neg (by rw [q];decide),if_neg h1,if_neg h2,if_pos q]
 ·rw [if_pos (by simpa using q),if_neg q]
def TestK (W:World) (n:Nat):Prop:=∀ (v:JV) (d t:Int),sizeV v<n->cntV v<=2 ^ 30->nmV v->0<=d->d<=17->0<=t->t<=64->MutC Tryz.prog W 146 [.gp 100000 0,encV v,iA d] (ckH (iA t) (iA 0)) (ckO (chkT n v d t))
def QueryK (W:World) (n:Nat):Prop:=∀ (v:JV) (d t:Int),sizeV v<n->cntV v<=2 ^ 30->nmV v->0<=d->d<=17->0<=t->t<=64->MutC Tryz.prog W 61 [.gp 100000 0,encV v,iA d] (ckH (iA t) (iA 0)) (ckO (chkQ n v d t))
section
variable (W:World)
theorem op168N (n:Nat) (hT:TestK W n) (hQ:QueryK W n) (x:JV) (d t:Int) (hs:sizeV x<n) (hcn:cntV x<=2 ^ 30) (hnm:nmV x) (hd:0<=d/\d<=16) (ht:0<=t/\t<=64):MutC Tryz.prog W 168 [.gp 100000 0,.str sNot,encV x,iA d] (ckH (iA t) (iA 0)) (ckO (opR n sNot x d t)):=by
 have hwd:IntKind.i64.wrap (d+1)=d+1:=IntWalk.i64_in _ (by omega)
 have hop:isOp sNot=true:=rfl
 have e:opR n sNot x d t=chkT n x (d+1) t:=by
  unfold opR;rw [if_neg (by rw [hop];decide),if_neg (by rw [show takesB sNot x=true from rfl];decide),if_pos rfl]
 rw [e]
 have hh1:=hT x (d+1) t hs hcn hnm (by omega) (by omega) ht.1 ht.2
 rw [<-hwd] at hh1 ⊢
 cases er:chkT n x (IntKind.i64.wrap (d+1)) t with
 | ok t2 =>
  rw [er] at hh1
  have hc:=hh1
  unfold ckO at hc
  obtain ⟨h,l⟩:=x
  exact mut_of_sfun mixedz call168 rfl (o168_sNot_0 W h l d t t2) Fb16_z1
 | error e2 =>
  rw [er] at hh1
  have hc:=hh1
  unfold ckO at hc
  obtain ⟨h,l⟩:=x
  exact mut_of_sfun mixedz call168 rfl (x168_sNot_0 W h l d t e2) Fb16_z1
theorem op168E (n:Nat) (hT:TestK W n) (hQ:QueryK W n) (x:JV) (d t:Int) (hs:sizeV x<n) (hcn:cntV x<=2 ^ 30) (hnm:nmV x) (hd:0<=d/\d<=16) (ht:0<=t/\t<=64):MutC Tryz.prog W 168 [.gp 100000 0,.str sElem,encV x,iA d] (ckH (iA t) (iA 0)) (ckO (opR n sElem x d t)):=by
 have hwd:IntKind.i64.wrap (d+1)=d+1:=IntWalk.i64_in _ (by omega)
 have hop:isOp sElem=true:=rfl
 have e:opR n sElem x d t=if (isTestB x && !joinsB (firstS x))=true then chkT n x (d+1) t else chkQ n x (d+1) t:=by
  unfold opR;rw [if_neg (by rw [hop];decide),if_neg (by rw [show takesB sElem x=true from rfl];decide),if_neg (by decide),if_pos rfl]
 rw [e]
 have hc1:=mut_of_pure (by simp only [cloL,encV_clo,Bool.and_self]) (first74 W x)
 have hc2:=mut_of_pure (by rfl) (dollar69 W (firstS x))
 have hc3:=mut_of_pure (by rfl) (joins70 W (firstS x))
 have hh1:=hT x (d+1) t hs hcn hnm (by omega) (by omega) ht.1 ht.2
 have hh2:=hQ x (d+1) t hs hcn hnm (by omega) (by omega) ht.1 ht.2
 rw [<-hwd] at hh1 hh2 ⊢
 unfold isTestB
 cases eb:dollarB (firstS x) with
 | true =>
  rw [eb] at hc2
  cases ej:joinsB (firstS x) with
  | false =>
   rw [ej] at hc3
   rw [if_pos (by rfl)]
   cases er:chkT n x (IntKind.i64.wrap (d+1)) t with
   | ok t2=>rw [er] at hh1;have hc:=hh1;unfold ckO at hc;obtain ⟨h,l⟩:=x;exact mut_of_sfun mixedz call168 rfl (o168_sElem_0 W h l d t t2 true false) Fb16_z1
   | error e2=>rw [er] at hh1;have hc:=hh1;unfold ckO at hc;obtain ⟨h,l⟩:=x;exact mut_of_sfun mixedz call168 rfl (x168_sElem_0 W h l d t e2 true false) Fb16_z1
  | true =>
   rw [ej] at hc3
   rw [if_neg (by decide)]
   cases er:chkQ n x (IntKind.i64.wrap (d+1)) t with
   | ok t2=>rw [er] at hh2;have hc:=hh2;unfold ckO at hc;obtain ⟨h,l⟩:=x;exact mut_of_sfun mixedz call168 rfl (o168_sElem_1 W h l d t t2 true true) Fb16_z1
   | error e2=>rw [er] at hh2;have hc:=hh2;unfold ckO at hc;obtain ⟨h,l⟩:=x;exact mut_of_sfun mixedz call168 rfl (x168_sElem_1 W h l d t e2 true true) Fb16_z1
 | false =>
  rw [eb] at hc2
  rw [if_neg (by rw [Bool.false_and];decide)]
  cases er:chkQ n x (IntKind.i64.wrap (d+1)) t with
  | ok t2=>rw [er] at hh2;have hc:=hh2;unfold ckO at hc;obtain ⟨h,l⟩:=x;exact mut_of_sfun mixedz call168 rfl (o168_sElem_2 W h l d t t2 false) Fb16_z1
  | error e2=>rw [er] at hh2;have hc:=hh2;unfold ckO at hc;obtain ⟨h,l⟩:=x;exact mut_of_sfun mixedz call168 rfl (x168_sElem_2 W h l d t e2 false) Fb16_z1
theorem op168 (n:Nat) (hT:TestK W n) (hQ:QueryK W n) (nm:List UInt8) (x:JV) (d t:Int) (hs:sizeV x<n) (hcn:cntV x<=2 ^ 30) (hnm:nmV x) (hd:0<=d/\d<=16) (ht:0<=t/\t<=64):MutC Tryz.prog W 168 [.gp 100000 0,.str nm,encV x,iA d] (ckH (iA t) (iA 0)) (ckO (opR n nm x d t)):=by
 have hwd:IntKind.i64.wrap (d+1)=d+1:=IntWalk.i64_in _ (by omega)
 by_cases hop:isOp nm=true
 case neg =>
  have e:opR n nm x d t=.error 41:=by unfold opR;rw [if_pos (by simpa using hop)]
  rw [e]
  have hno:¬ (nm=sEq\/nm=sNe\/nm=sGt\/nm=sGte\/nm=sLt\/nm=sLte\/nm=sIn\/nm=sNin\/nm=sAll\/nm=sExists\/nm=sType\/nm=sSize\/nm=sMod\/nm=sNot\/nm=sElem):=fun q=>hop (by simpa [isOp] using q)
  simp only [not_or] at hno
  obtain ⟨a1,a2,a3,a4,a5,a6,a7,a8,a9,b1,b2,b3,b4,b5,b6⟩:=hno
  have ca1:¬ nm=[36,101,113]:=a1
  have ca2:¬ nm=[36,110,101]:=a2
  have ca3:¬ nm=[36,103,116]:=a3
  have ca4:¬ nm=[36,103,116,101]:=a4
  have ca5:¬ nm=[36,108,116]:=a5
  have ca6:¬ nm=[36,108,116,101]:=a6
  have ca7:¬ nm=[36,105,110]:=a7
  have ca8:¬ nm=[36,110,105,110]:=a8
  have ca9:¬ nm=[36,97,108,108]:=a9
  have cb1:¬ nm=[36,101,120,105,115,116,115]:=b1
  have cb2:¬ nm=[36,116,121,112,101]:=b2
  have cb3:¬ nm=[36,115,105,122,101]:=b3
  have cb4:¬ nm=[36,109,111,100]:=b4
  have cb5:¬ nm=[36,110,111,116]:=b5
  have cb6:¬ nm=[36,101,108,101,109,77,97,116,99,104]:=b6
  obtain ⟨h,l⟩:=x
  exact err_of W (mut_of_sfun mixedz call168 rfl (u168_0 W h l d t nm) Fb16_z1)
 rcases op_cases hop with rfl|rfl|rfl|rfl|rfl|rfl|rfl|rfl|rfl|rfl|rfl|rfl|rfl|rfl|rfl
 ·
  rw [opR_pl hop (by decide) (by decide)]
  obtain ⟨h,l⟩:=x
  rw [if_pos (show takesB sEq (.mk h l)=true from rfl)]
  exact mut_of_sfun mixedz call168 rfl (o168_sEq_0 W h l d t) Fb16_z1
 ·
  rw [opR_pl hop (by decide) (by decide)]
  obtain ⟨h,l⟩:=x
  rw [if_pos (show takesB sNe (.mk h l)=true from rfl)]
  exact mut_of_sfun mixedz call168 rfl (o168_sNe_0 W h l d t) Fb16_z1
 ·
  rw [opR_pl hop (by decide) (by decide)]
  obtain ⟨h,l⟩:=x
  rw [if_pos (show takesB sGt (.mk h l)=true from rfl)]
  exact mut_of_sfun mixedz call168 rfl (o168_sGt_0 W h l d t) Fb16_z1
 ·
  rw [opR_pl hop (by decide) (by decide)]
  obtain ⟨h,l⟩:=x
  rw [if_pos (show takesB sGte (.mk h l)=true from rfl)]
  exact mut_of_sfun mixedz call168 rfl (o168_sGte_0 W h l d t) Fb16_z1
 ·
  rw [opR_pl hop (by decide) (by decide)]
  obtain ⟨h,l⟩:=x
  rw [if_pos (show takesB sLt (.mk h l)=true from rfl)]
  exact mut_of_sfun mixedz call168 rfl (o168_sLt_0 W h l d t) Fb16_z1
 ·
  rw [opR_pl hop (by decide) (by decide)]
  obtain ⟨h,l⟩:=x
  rw [if_pos (show takesB sLte (.mk h l)=true from rfl)]
  exact mut_of_sfun mixedz call168 rfl (o168_sLte_0 W h l d t) Fb16_z1
 ·
  rw [opR_pl hop (by decide) (by decide)]
  obtain ⟨h,l⟩:=x
  rw [show takesB sIn (.mk h l)=decide (h.kind=5) from rfl]
  by_cases k5:h.kind=5
  ·have hb1:(!decide (h.kind=5))=false:=by rw [decide_eq_true k5];rfl
   rw [if_pos (decide_eq_true k5)];exact mut_of_sfun mixedz call168 rfl (o168_sIn_1 W h l d t) Fb16_z1
  ·have hb1:(!decide (h.kind=5))=true:=by rw [decide_eq_false k5];rfl
   rw [if_neg (by rw [decide_eq_false k5];decide)];exact err_of W (mut_of_sfun mixedz call168 rfl (o168_sIn_0 W h l d t) Fb16_z1)
 ·
  rw [opR_pl hop (by decide) (by decide)]
  obtain ⟨h,l⟩:=x
  rw [show takesB sNin (.mk h l)=decide (h.kind=5) from rfl]
  by_cases k5:h.kind=5
  ·have hb1:(!decide (h.kind=5))=false:=by rw [decide_eq_true k5];rfl
   rw [if_pos (decide_eq_true k5)];exact mut_of_sfun mixedz call168 rfl (o168_sNin_1 W h l d t) Fb16_z1
  ·have hb1:(!decide (h.kind=5))=true:=by rw [decide_eq_false k5];rfl
   rw [if_neg (by rw [decide_eq_false k5];decide)];exact err_of W (mut_of_sfun mixedz call168 rfl (o168_sNin_0 W h l d t) Fb16_z1)
 ·
  rw [opR_pl hop (by decide) (by decide)]
  obtain ⟨h,l⟩:=x
  rw [show takesB sAll (.mk h l)=decide (h.kind=5) from rfl]
  by_cases k5:h.kind=5
  ·have hb1:(!decide (h.kind=5))=false:=by rw [decide_eq_true k5];rfl
   rw [if_pos (decide_eq_true k5)];exact mut_of_sfun mixedz call168 rfl (o168_sAll_1 W h l d t) Fb16_z1
  ·have hb1:(!decide (h.kind=5))=true:=by rw [decide_eq_false k5];rfl
   rw [if_neg (by rw [decide_eq_false k5];decide)];exact err_of W (mut_of_sfun mixedz call168 rfl (o168_sAll_0 W h l d t) Fb16_z1)
 ·
  rw [opR_pl hop (by decide) (by decide)]
  obtain ⟨h,l⟩:=x
  rw [show takesB sExists (.mk h l)=decide (h.kind=1\/h.kind=2) from rfl]
  by_cases k1:h.kind=1
  ·rw [if_pos (decide_eq_true (.inl k1))];exact mut_of_sfun mixedz call168 rfl (o168_sExists_0 W h l d t) Fb16_z1
  by_cases k2:h.kind=2
  ·have hb1:(!decide (h.kind=2))=false:=by rw [decide_eq_true k2];rfl
   rw [if_pos (decide_eq_true (.inr k2))];exact mut_of_sfun mixedz call168 rfl (o168_sExists_2 W h l d t) Fb16_z1
  ·have hb1:(!decide (h.kind=2))=true:=by rw [decide_eq_false k2];rfl
   rw [if_neg (by rw [decide_eq_false (by rintro (q|q);exact k1 q;exact k2 q)];decide)];exact err_of W (mut_of_sfun mixedz call168 rfl (o168_sExists_1 W h l d t) Fb16_z1)
 ·
  rw [opR_pl hop (by decide) (by decide)]
  obtain ⟨h,l⟩:=x
  rw [show takesB sType (.mk h l)=(decide (h.kind=4) && decide (0<=typeN h.text)) from rfl]
  have hc:=mut_of_pure (by rfl) (type188 W h.text)
  by_cases k4:h.kind=4
  ·by_cases q:0<=typeN h.text
   ·have hb1:(!decide (0<=typeN h.text))=false:=by rw [decide_eq_true q];rfl
    rw [if_pos (by rw [decide_eq_true k4,decide_eq_true q];rfl)];exact mut_of_sfun mixedz call168 rfl (o168_sType_1 W h l d t) Fb16_z1
   ·have hb1:(!decide (0<=typeN h.text))=true:=by rw [decide_eq_false q];rfl
    rw [if_neg (by rw [decide_eq_false q,Bool.and_false];decide)];exact err_of W (mut_of_sfun mixedz call168 rfl (o168_sType_0 W h l d t) Fb16_z1)
  ·rw [if_neg (by rw [decide_eq_false k4,Bool.false_and];decide)];exact err_of W (mut_of_sfun mixedz call168 rfl (o168_sType_2 W h l d t) Fb16_z1)
 ·
  rw [opR_pl hop (by decide) (by decide)]
  obtain ⟨h,l⟩:=x
  rw [show takesB sSize (.mk h l)=(decide (h.kind=3) && decide (0<=h.int)) from rfl]
  by_cases k3:h.kind=3
  ·by_cases q:0<=h.int
   ·have hb1:(!decide (0<=h.int))=false:=by rw [decide_eq_true q];rfl
    rw [if_pos (by rw [decide_eq_true k3,decide_eq_true q];rfl)];exact mut_of_sfun mixedz call168 rfl (o168_sSize_1 W h l d t) Fb16_z1
   ·have hb1:(!decide (0<=h.int))=true:=by rw [decide_eq_false q];rfl
    rw [if_neg (by rw [decide_eq_false q,Bool.and_false];decide)];exact err_of W (mut_of_sfun mixedz call168 rfl (o168_sSize_0 W h l d t) Fb16_z1)
  ·rw [if_neg (by rw [decide_eq_false k3,Bool.false_and];decide)];exact err_of W (mut_of_sfun mixedz call168 rfl (o168_sSize_2 W h l d t) Fb16_z1)
 ·
  rw [opR_pl hop (by decide) (by decide)]
  obtain ⟨h,l⟩:=x
  by_cases k5:h.kind=5
  case neg =>
   have hk:takesB sMod (.mk h l)=false:=by
    show (decide (h.kind=5) && _)=false
    rw [decide_eq_false k5,Bool.false_and]
   rw [if_neg (by rw [hk];decide)];exact err_of W (mut_of_sfun mixedz call168 rfl (o168_sMod_5 W h l d t) Fb16_z1)
  have hsh:(∃ a b,l=[a,b])\/(takesB sMod (.mk h l)=false/\l.length ≠ 2):=by
   match l with
   | []=>exact .inr ⟨by show (decide (h.kind=5) && false)=false;rw [Bool.and_false],by simp⟩
   | [a]=>exact .inr ⟨by show (decide (h.kind=5) && false)=false;rw [Bool.and_false],by simp⟩
   | [a,b]=>exact .inl ⟨a,b,rfl⟩
   | a::b::c::r=>exact .inr ⟨by show (decide (h.kind=5) && false)=false;rw [Bool.and_false],by simp⟩
  rcases hsh with ⟨a,b,rfl⟩|⟨hk,hl2⟩
  case inr =>
   have hb1:decide (((encVs l).length:Int)=2)=false:=decide_eq_false (by rw [encVs_len];omega)
   rw [if_neg (by rw [hk];decide)];exact err_of W (mut_of_sfun mixedz call168 rfl (o168_sMod_4 W h l d t) Fb16_z1)
  obtain ⟨h3,l3⟩:=a
  obtain ⟨h4,l4⟩:=b
  have hk:takesB sMod (.mk h [JV.mk h3 l3,JV.mk h4 l4])=(decide (h.kind=5) && (decide (h3.kind=3) && decide (h4.kind=3) && !decide (h3.int=0))):=rfl
  have hget:(encVs [JV.mk h3 l3,JV.mk h4 l4])[0]?=some (encV (.mk h3 l3)):=rfl
  have hget2:(encVs [JV.mk h3 l3,JV.mk h4 l4])[1]?=some (encV (.mk h4 l4)):=rfl
  have hb2:decide (((encVs [JV.mk h3 l3,JV.mk h4 l4]).length:Int)=2)=true:=rfl
  by_cases k3:h3.kind=3
  case neg=>rw [if_neg (by rw [hk,decide_eq_false k3];simp)];exact err_of W (mut_of_sfun mixedz call168 rfl (o168_sMod_3 W h [JV.mk h3 l3,JV.mk h4 l4] d t h3 l3) Fb16_z1)
  by_cases k4:h4.kind=3
  case neg=>rw [if_neg (by rw [hk,decide_eq_false k4];simp)];exact err_of W (mut_of_sfun mixedz call168 rfl (o168_sMod_2 W h [JV.mk h3 l3,JV.mk h4 l4] d t h3 l3 h4 l4) Fb16_z1)
  by_cases z0:h3.int=0
  ·have hb1:(!!decide (h3.int=0))=true:=by rw [decide_eq_true z0];rfl
   rw [if_neg (by rw [hk,decide_eq_true z0];simp)];exact err_of W (mut_of_sfun mixedz call168 rfl (o168_sMod_0 W h [JV.mk h3 l3,JV.mk h4 l4] d t h3 l3 h4 l4) Fb16_z1)
  ·have hb1:(!!decide (h3.int=0))=false:=by rw [decide_eq_false z0];rfl
   rw [if_pos (by rw [hk,decide_eq_true k5,decide_eq_true k3,decide_eq_true k4,decide_eq_false z0];rfl)];exact mut_of_sfun mixedz call168 rfl (o168_sMod_1 W h [JV.mk h3 l3,JV.mk h4 l4] d t h3 l3 h4 l4) Fb16_z1
 ·exact op168N W n hT hQ x d t hs hcn hnm hd ht
 ·exact op168E W n hT hQ x d t hs hcn hnm hd ht
end
end Go.Ac

namespace Go.Ac
open Go
theorem flat_cnt {α:Type} (f:JV->List α) (hf:∀ x,(f x).length<=cntV x):∀ l:List JV,(l.flatMap f).length<=cntVs l
 | []=>by simp
 | x::l=>by have:=hf x;have:=flat_cnt f hf l;simp only [List.flatMap_cons,List.length_append,cntVs];omega
theorem zip_cnt {α:Type} (f:List UInt8×JV->List α) (hf:∀ p,(f p).length<=cntV p.2):∀ (ns:List (List UInt8)) (l:List JV),((ns.zip l).flatMap f).length<=cntVs l
 | [],l=>by simp
 | _::_,[]=>by simp
 | s::ns,x::l=>by have:=hf (s,x);have:=zip_cnt f hf ns l;simp only [List.zip_cons_cons,List.flatMap_cons,List.length_append,cntVs];simp only at *;omega
theorem mems_item {q:JV} {p:List UInt8×JV} (h:p ∈ q.mems):p.2 ∈ q.items:=by
 unfold JV.mems at h
 obtain ⟨s,v⟩:=p
 exact List.of_mem_zip h |>.2
end Go.Ac

namespace Go.Ac
open Go Go.Proofs
set_option maxRecDepth 10000
set_option maxHeartbeats 1000000
theorem Fb17_z1 {kp f ph σ σ'} (h:MatchK kp f ph σ σ':=by exact ⟨by rfl,(by simp only [S146,E146,S61i,ckH,endK,innK,tOK,List.map_cons,List.map_nil,and_true]<;>exact zt),(by simp only [S146,E146,S61i,ckH,endK,innK,hOK,List.map_cons,List.map_nil,and_true]<;>exact zh),(by simp only [S146,E146,S61i,ckH,endK,innK,liveT,List.map_cons,List.map_nil,and_true]<;>exact zv),(by simp only [S146,E146,S61i,ckH,endK,innK,liveH,List.map_cons,List.map_nil,and_true]<;>exact zv)⟩):MatchK kp f ph σ σ':=h
theorem Fb17_z2 {cs} (h:Holds cs:=by simp only [Holds,and_true]<;>and_intros<;>first|exact zd):Holds cs:=h
theorem Fb17_z3 {cs} (h:Holds cs:=by simp only [Holds,and_true]<;>and_intros<;>first|exact zd|exact Fb17_z1):Holds cs:=h
def endK:Except Int Int->AS
 | .ok t=>E146 (iA t) 0
 | .error e=>E146 .top e
def innK (h:JH) (l:List JV) (d:Int) (i:Nat):Except Int Int->AS
 | .ok t=>S146 h l d (iA t) 0 i
 | .error e=>S146 h l d .top e i
def clR (n:Nat) (s:List UInt8) (x:JV) (d t:Int):Except Int Int:=if parseE s ≠ 0 then .error 20 else if isTestB x=true then chkT n x d t else if 64<=t then .error 43 else .ok (t+1)
def stT (n:Nat) (d:Int) (p:List UInt8×JV) (t:Int):Except Int Int:=if 64<=t then .error 43 else opR n p.1 p.2 d (t+1)
def stQ (n:Nat) (d:Int) (p:List UInt8×JV) (t:Int):Except Int Int:=if joinsB p.1=true then (if p.2.kind ≠ 5\/p.2.items=[] then .error 42 else foldX (fun y t=>chkQ n y (d+1) t) p.2.items t) else if dollarB p.1=true then .error 41 else clR n p.1 p.2 d t
theorem chkT_eq (n:Nat) (v:JV) (d t:Int):chkT (n+1) v d t=if v.kind ≠ 6\/v.mems=[] then .error 40 else if 16<d then .error 44 else foldX (stT n d) v.mems t:=by rw [chkT];rfl
theorem chkQ_eq (n:Nat) (v:JV) (d t:Int):chkQ (n+1) v d t=if v.kind ≠ 6 then .error 40 else if 16<d then .error 44 else foldX (stQ n d) v.mems t:=by rw [chkQ];rfl
theorem stT_le {n:Nat} {d t t1:Int} {p:List UInt8×JV} (h:stT n d p t=.ok t1):t<=t1/\t1<=64:=by
 unfold stT at h
 split at h
 ·cases h
 rename_i q
 unfold opR at h
 split at h
 ·cases h
 split at h
 ·cases h
 split at h
 ·have:=(chk_le n).1 _ _ _ _ h;exact ⟨by omega,this.2 (by omega)⟩
 split at h
 ·split at h
  ·have:=(chk_le n).1 _ _ _ _ h;exact ⟨by omega,this.2 (by omega)⟩
  ·have:=(chk_le n).2 _ _ _ _ h;exact ⟨by omega,this.2 (by omega)⟩
 ·cases h;omega
theorem stT_err {n:Nat} {d t e:Int} {p:List UInt8×JV} (h:stT n d p t=.error e):e ≠ 0:=by
 unfold stT at h
 split at h
 ·cases h;decide
 unfold opR at h
 split at h
 ·cases h;decide
 split at h
 ·cases h;decide
 split at h
 ·exact (chk_err n).1 _ _ _ _ h
 split at h
 ·split at h
  ·exact (chk_err n).1 _ _ _ _ h
  ·exact (chk_err n).2 _ _ _ _ h
 ·cases h
theorem clR_le {n:Nat} {d t t1:Int} {s:List UInt8} {x:JV} (h:clR n s x d t=.ok t1):t<=t1/\(t<=64->t1<=64):=by
 unfold clR at h
 split at h
 ·cases h
 split at h
 ·exact (chk_le n).1 _ _ _ _ h
 split at h
 ·cases h
 ·cases h;exact ⟨by omega,fun _=>by omega⟩
theorem clR_err {n:Nat} {d t e:Int} {s:List UInt8} {x:JV} (h:clR n s x d t=.error e):e ≠ 0:=by
 unfold clR at h
 split at h
 ·cases h;decide
 split at h
 ·exact (chk_err n).1 _ _ _ _ h
 split at h
 ·cases h;decide
 ·cases h
section
variable (W:World)
section
variable (h:JH) (l:List JV)
theorem z146 (d e:Int) (he:e ≠ 0) (i:Nat):LoopC Tryz.prog W [100000] (nslots Tryz.prog 146) (loopOf Tryz.prog 146 0) (S146 h l d .top e i) (.exit 0) (E146 .top e):=by
 have hc:=mut_of_pure (by simp only [cloL,encV_clo,Bool.and_self]) (members65 W (.mk h l))
 have hb1:decide (e=0)=false:=decide_eq_false he
 refine loop_last (by simp) ?_
 by_cases q:(i:Int)<((JV.mk h l).mem:Nat)
 ·exact body_of_sbodyK mixedz (z146_0 W h l d 0 e ((JV.mk h l).mem:Nat) i) Fb17_z2 [] [] Fb17_z1
 ·exact body_of_sbodyK mixedz (z146_1 W h l d 0 e ((JV.mk h l).mem:Nat) i) Fb17_z2 [] [] Fb17_z1
theorem z61 (d e:Int) (he:e ≠ 0) (i:Nat):LoopC Tryz.prog W [100000] (nslots Tryz.prog 61) (loopOf Tryz.prog 61 0) (S146 h l d .top e i) (.exit 0) (E146 .top e):=by
 have hc:=mut_of_pure (by simp only [cloL,encV_clo,Bool.and_self]) (members65 W (.mk h l))
 have hb1:decide (e=0)=false:=decide_eq_false he
 refine loop_last (by simp) ?_
 by_cases q:(i:Int)<((JV.mk h l).mem:Nat)
 ·exact body_of_sbodyK mixedz (z61_0 W h l d 0 e ((JV.mk h l).mem:Nat) i) Fb17_z2 [] [] Fb17_z1
 ·exact body_of_sbodyK mixedz (z61_1 W h l d 0 e ((JV.mk h l).mem:Nat) i) Fb17_z2 [] [] Fb17_z1
theorem loop146 (n:Nat) (hT:TestK W n) (hQ:QueryK W n) (hsz:sizeV (.mk h l)<=n) (hcn:cntV (.mk h l)<=2 ^ 30) (hnm:nmV (.mk h l)) (d:Int) (hd:0<=d/\d<=16):∀ (k i:Nat) (t:Int),(JV.mk h l).mems.length - i=k->i<=(JV.mk h l).mems.length->0<=t->t<=64 →
 LoopC Tryz.prog W [100000] (nslots Tryz.prog 146) (loopOf Tryz.prog 146 0) (S146 h l d (iA t) 0 i) (.exit 0) (endK (foldX (stT n d) ((JV.mk h l).mems.drop i) t)):=by
 have hml:=JV.mems_len (.mk h l)
 have hln:=mems_ln (.mk h l)
 have hc:=mut_of_pure (by simp only [cloL,encV_clo,Bool.and_self]) (members65 W (.mk h l))
 intro k
 induction k with
 | zero =>
  intro i t hk h1 ht0 ht1
  have hil:i=(JV.mk h l).mems.length:=by omega
  rw [hil,List.drop_length]
  simp only [foldX]
  rw [<-hil]
  have hb1:decide ((i:Int)<(((JV.mk h l).mem:Nat):Int))=false:=decide_eq_false (by omega)
  exact loop_last (by simp) (body_of_sbodyK mixedz (y146_0 W h l d t ((JV.mk h l).mem:Nat) i) Fb17_z2 [] [] Fb17_z1)
 | succ k ih =>
  intro i t hk h1 ht0 ht1
  obtain ⟨p,hp⟩:=getOf (l:=(JV.mk h l).mems) (i:=i) (by omega)
  have hws:IntKind.i64.wrap ((i:Int)+1)=((i+1:Nat):Int):=wrap_succ (by omega)
  have hwt:IntKind.i64.wrap (t+1)=t+1:=IntWalk.i64_in _ (by omega)
  have hb1:decide ((i:Int)<(((JV.mk h l).mem:Nat):Int))=true:=decide_eq_true (by omega)
  have hpm:=mems_mem (List.mem_of_getElem? hp)
  have hpi:=mem_item hpm.2
  rw [drop_get hp,foldX]
  obtain ⟨s,x⟩:=p
  have hz:=(List.getElem?_zip_eq_some (l₁:=h.names) (l₂:=l) (i:=i)).1 hp
  obtain ⟨hx,hv⟩:=hz
  simp only at hx hv hpi hpm
  have hget:(List.map AV.str h.names)[((i:Int)).toNat]?=some (AV.str s):=by rw [Int.toNat_natCast];exact strs_get hx
  have hget2:(encVs l)[((i:Int)).toNat]?=some (encV x):=by rw [Int.toNat_natCast];exact encVs_get hv
  by_cases h64:64<=t
  ·have e:stT n d (s,x) t=.error 43:=by unfold stT;rw [if_pos h64]
   rw [e]
   obtain ⟨h2,l2⟩:=x
   exact loop_next (body_of_sbodyK (σ3:=S146 h l d .top 43 (i+1:Nat)) mixedz (o146_0 W h l d t ((JV.mk h l).mem:Nat) i) Fb17_z2 [] [] Fb17_z1) (z146 W h l d 43 (by decide) (i+1))
  ·have e:stT n d (s,x) t=opR n s x d (t+1):=by unfold stT;rw [if_neg h64]
   have hop:=op168 W n hT hQ s x d (t+1) (by omega) (by omega) (nmV_mem hnm hpm.2) hd (by omega)
   have hb2:decide (64<=t)=false:=decide_eq_false h64
   cases er:opR n s x d (t+1) with
   | ok t1 =>
    have hle:=stT_le (e.trans er)
    rw [er,<-hwt] at hop
    unfold ckO at hop
    have hc2:=hop
    have hih:=ih (i+1) t1 (by omega) (by omega) (by omega) hle.2
    rw [e,er]
    obtain ⟨h2,l2⟩:=x
    exact loop_next (body_of_sbodyK (σ3:=S146 h l d (iA t1) 0 (i+1:Nat)) mixedz (o146_1 W h l d t t1 ((JV.mk h l).mem:Nat) i s h2 l2) Fb17_z2 [] [] Fb17_z1) hih
   | error e1 =>
    have hne:=stT_err (e.trans er)
    rw [er,<-hwt] at hop
    unfold ckO at hop
    have hc2:=hop
    rw [e,er]
    obtain ⟨h2,l2⟩:=x
    exact loop_next (body_of_sbodyK (σ3:=S146 h l d .top e1 (i+1:Nat)) mixedz (x146_0 W h l d t e1 ((JV.mk h l).mem:Nat) i s h2 l2) Fb17_z2 [] [] Fb17_z1) (z146 W h l d e1 hne (i+1))
end
theorem testK_step (n:Nat) (hT:TestK W n) (hQ:QueryK W n):TestK W (n+1):=by
 intro v d t hsz hcn hnm hd0 hd17 ht0 ht64
 obtain ⟨h,l⟩:=v
 have hml:=JV.mems_len (.mk h l)
 have hc:=mut_of_pure (by simp only [cloL,encV_clo,Bool.and_self]) (members65 W (.mk h l))
 rw [chkT_eq]
 by_cases k6:h.kind=6
 case neg =>
  have hb1:(!decide (h.kind=6))=true:=by rw [decide_eq_false k6];rfl
  rw [if_pos (.inl k6)]
  exact err_of W (mut_of_sfun mixedz call146 rfl (p146o_0 W h l d t) Fb17_z2)
 have hb1:(!decide (h.kind=6))=false:=by rw [decide_eq_true k6];rfl
 by_cases hm:(JV.mk h l).mems=[]
 ·have hb2:decide ((((JV.mk h l).mem:Nat):Int)=0)=true:=decide_eq_true (by rw [<-hml,hm];rfl)
  rw [if_pos (.inr hm)]
  exact err_of W (mut_of_sfun mixedz call146 rfl (p146o_1 W h l d t ((JV.mk h l).mem:Nat)) Fb17_z2)
 have hb2:decide ((((JV.mk h l).mem:Nat):Int)=0)=false:=decide_eq_false (by rw [<-hml];have:=List.length_pos_iff.2 hm;omega)
 rw [if_neg (by rintro (q|q);exact q k6;exact hm q)]
 by_cases hd:16<d
 ·rw [if_pos hd]
  exact err_of W (mut_of_sfun mixedz call146 rfl (p146o_2 W h l d t ((JV.mk h l).mem:Nat)) Fb17_z2)
 rw [if_neg hd]
 have hlp:=loop146 W h l n hT hQ (by omega) hcn hnm d ⟨hd0,by omega⟩ _ 0 t rfl (by omega) ht0 ht64
 rw [List.drop_zero] at hlp
 cases er:foldX (stT n d) (JV.mk h l).mems t with
 | ok t2 =>
  rw [er] at hlp
  unfold endK at hlp
  exact mut_of_sfun mixedz call146 rfl (p146o_3 W h l d t t2 ((JV.mk h l).mem:Nat)) Fb17_z3
 | error e =>
  rw [er] at hlp
  unfold endK at hlp
  exact mut_of_sfun mixedz call146 rfl (p146x_3 W h l d t e ((JV.mk h l).mem:Nat)) Fb17_z3
theorem clause105 (n:Nat) (hT:TestK W n) (s:List UInt8) (x:JV) (d t:Int) (hs:sizeV x<n) (hcn:cntV x<=2 ^ 30) (hnm:nmV x) (hns:s.length<=2 ^ 30) (hd:0<=d/\d<=16) (ht:0<=t/\t<=64):MutC Tryz.prog W 105 [.gp 100000 0,.str s,encV x,iA d] (ckH (iA t) (iA 0)) (ckO (clR n s x d t)):=by
 have hwt:IntKind.i64.wrap (t+1)=t+1:=IntWalk.i64_in _ (by omega)
 have hc1:=mut_of_pure (by rfl) (Parse23 W s hns)
 unfold parseAV at hc1
 have hc2:=mut_of_pure (by simp only [cloL,encV_clo,Bool.and_self]) (first74 W x)
 have hc3:=mut_of_pure (by rfl) (dollar69 W (firstS x))
 have hh:=hT x d t hs hcn hnm hd.1 (by omega) ht.1 ht.2
 unfold clR
 by_cases hp:parseE s=0
 case neg =>
  have hb1:(!decide (parseE s=0))=true:=by rw [decide_eq_false hp];rfl
  rw [if_pos hp]
  obtain ⟨h,l⟩:=x
  exact err_of W (mut_of_sfun mixedz call105 rfl (p105_0 W h l d t (parseE s) s ((parseP s).map AV.str) (parseA s)) Fb17_z2)
 have hb1:(!decide (parseE s=0))=false:=by rw [decide_eq_true hp];rfl
 rw [if_neg (by rw [hp];decide)]
 unfold isTestB
 cases eb:dollarB (firstS x) with
 | true =>
  rw [eb] at hc3
  rw [if_pos rfl]
  cases er:chkT n x d t with
  | ok t2=>rw [er] at hh;unfold ckO at hh;have hc4:=hh;obtain ⟨h,l⟩:=x;exact mut_of_sfun mixedz call105 rfl (p105_1 W h l d t t2 (parseE s) s ((parseP s).map AV.str) true (parseA s)) Fb17_z2
  | error e=>rw [er] at hh;unfold ckO at hh;have hc4:=hh;obtain ⟨h,l⟩:=x;exact mut_of_sfun mixedz call105 rfl (q105_0 W h l d t e (parseE s) s ((parseP s).map AV.str) true (parseA s)) Fb17_z2
 | false =>
  rw [eb] at hc3
  rw [if_neg (by decide)]
  obtain ⟨h,l⟩:=x
  by_cases h64:64<=t
  ·rw [if_pos h64]
   exact err_of W (mut_of_sfun mixedz call105 rfl (p105_2 W h l d t (parseE s) s ((parseP s).map AV.str) false (parseA s)) Fb17_z2)
  ·rw [if_neg h64]
   rw [<-hwt]
   exact mut_of_sfun mixedz call105 rfl (p105_3 W h l d t (parseE s) s ((parseP s).map AV.str) false (parseA s)) Fb17_z2
end
end Go.Ac

namespace Go.Ac
open Go Go.Proofs
set_option maxRecDepth 10000
set_option maxHeartbeats 1000000
theorem Fb18_z1 {kp f ph σ σ'} (h:MatchK kp f ph σ σ':=by exact ⟨by rfl,(by simp only [S146,E146,S61i,ckH,endK,innK,tOK,List.map_cons,List.map_nil,and_true]<;>exact zt),(by simp only [S146,E146,S61i,ckH,endK,innK,hOK,List.map_cons,List.map_nil,and_true]<;>exact zh),(by simp only [S146,E146,S61i,ckH,endK,innK,liveT,List.map_cons,List.map_nil,and_true]<;>exact zv),(by simp only [S146,E146,S61i,ckH,endK,innK,liveH,List.map_cons,List.map_nil,and_true]<;>exact zv)⟩):MatchK kp f ph σ σ':=h
theorem Fb18_z2 {cs} (h:Holds cs:=by simp only [Holds,and_true]<;>and_intros<;>first|exact zd):Holds cs:=h
theorem Fb18_z3 {cs} (h:Holds cs:=by simp only [Holds,and_true]<;>and_intros<;>first|exact zd|exact Fb18_z1):Holds cs:=h
theorem stQ_le {n:Nat} {d t t1:Int} {p:List UInt8×JV} (h:stQ n d p t=.ok t1):t<=t1/\(t<=64->t1<=64):=by
 unfold stQ at h
 split at h
 ·split at h
  ·cases h
  ·exact foldX_le (fun y hy u u' hu=>(chk_le n).2 _ _ _ _ hu) h
 split at h
 ·cases h
 ·exact clR_le h
theorem stQ_err {n:Nat} {d t e:Int} {p:List UInt8×JV} (h:stQ n d p t=.error e):e ≠ 0:=by
 unfold stQ at h
 split at h
 ·split at h
  ·cases h;decide
  ·exact foldX_err (fun y hy u e hu=>(chk_err n).2 _ _ _ _ hu) h
 split at h
 ·cases h;decide
 ·exact clR_err h
section
variable (W:World)
section
variable (h:JH) (l:List JV) (h2:JH) (l2:List JV)
theorem k61 (d e:Int) (he:e ≠ 0) (i k:Nat):LoopC Tryz.prog W [100000] (nslots Tryz.prog 61) (loopOf Tryz.prog 61 1) (S61i h2 l2 h l d .top e i k) (.exit 3) (S146 h l d .top e i):=by
 have hb1:decide (e=0)=false:=decide_eq_false he
 exact loop_last (by simp) (body_of_sbodyK mixedz (k61_0 W h l d 0 e i k h2 l2) Fb18_z2 [] [] Fb18_z1)
theorem inner61 (n:Nat) (hQ:QueryK W n) (d:Int) (hd:0<=d/\d<=16) (hs:∀ y ∈ l2,sizeV y<n/\cntV y<=2 ^ 30/\nmV y) (hl2:l2.length<=2 ^ 30) (i:Nat):∀ (q k:Nat) (t:Int),l2.length - k=q->k<=l2.length->0<=t->t<=64 →
 LoopC Tryz.prog W [100000] (nslots Tryz.prog 61) (loopOf Tryz.prog 61 1) (S61i h2 l2 h l d (iA t) 0 i k) (.exit 3) (innK h l d i (foldX (fun y t=>chkQ n y (d+1) t) (l2.drop k) t)):=by
 have hwd:IntKind.i64.wrap (d+1)=d+1:=IntWalk.i64_in _ (by omega)
 intro q
 induction q with
 | zero =>
  intro k t hk h1 ht0 ht1
  have hil:k=l2.length:=by omega
  rw [hil,List.drop_length]
  simp only [foldX]
  rw [<-hil]
  have hb1:decide ((k:Int)<((encVs l2).length:Int))=false:=decide_eq_false (by rw [encVs_len];omega)
  exact loop_last (by simp) (body_of_sbodyK mixedz (oi61_1 W h l d t i k h2 l2) Fb18_z2 [] [] Fb18_z1)
 | succ q ih =>
  intro k t hk h1 ht0 ht1
  obtain ⟨y,hy⟩:=getOf (l:=l2) (i:=k) (by omega)
  have hws:IntKind.i64.wrap ((k:Int)+1)=((k+1:Nat):Int):=wrap_succ (by omega)
  have hb1:decide ((k:Int)<((encVs l2).length:Int))=true:=decide_eq_true (by rw [encVs_len];omega)
  have hget:(encVs l2)[((k:Int)).toNat]?=some (encV y):=by rw [Int.toNat_natCast];exact encVs_get hy
  obtain ⟨y1,y2,y3⟩:=hs y (List.mem_of_getElem? hy)
  have hh:=hQ y (d+1) t y1 y2 y3 (by omega) (by omega) ht0 ht1
  rw [drop_get hy,foldX]
  cases er:chkQ n y (d+1) t with
  | ok t1 =>
   have hle:=(chk_le n).2 _ _ _ _ er
   rw [er,<-hwd] at hh
   unfold ckO at hh
   have hc:=hh
   have hih:=ih (k+1) t1 (by omega) (by omega) (by omega) (hle.2 ht1)
   obtain ⟨h3,l3⟩:=y
   exact loop_next (body_of_sbodyK (σ3:=S61i h2 l2 h l d (iA t1) 0 i (k+1:Nat)) mixedz (oi61_0 W h l d t t1 i k h2 l2 h3 l3) Fb18_z2 [] [] Fb18_z1) hih
  | error e1 =>
   have hne:=(chk_err n).2 _ _ _ _ er
   rw [er,<-hwd] at hh
   unfold ckO at hh
   have hc:=hh
   obtain ⟨h3,l3⟩:=y
   exact loop_next (body_of_sbodyK (σ3:=S61i h2 l2 h l d .top e1 i (k+1:Nat)) mixedz (xi61_0 W h l d t e1 i k h2 l2 h3 l3) Fb18_z2 [] [] Fb18_z1) (k61 W h l h2 l2 d e1 hne i (k+1))
end
theorem loop61 (h:JH) (l:List JV) (n:Nat) (hT:TestK W n) (hQ:QueryK W n) (hsz:sizeV (.mk h l)<=n) (hcn:cntV (.mk h l)<=2 ^ 30) (hnm:nmV (.mk h l)) (d:Int) (hd:0<=d/\d<=16):∀ (k i:Nat) (t:Int),(JV.mk h l).mems.length - i=k->i<=(JV.mk h l).mems.length->0<=t->t<=64 →
 LoopC Tryz.prog W [100000] (nslots Tryz.prog 61) (loopOf Tryz.prog 61 0) (S146 h l d (iA t) 0 i) (.exit 0) (endK (foldX (stQ n d) ((JV.mk h l).mems.drop i) t)):=by
 have hml:=JV.mems_len (.mk h l)
 have hln:=mems_ln (.mk h l)
 have hc:=mut_of_pure (by simp only [cloL,encV_clo,Bool.and_self]) (members65 W (.mk h l))
 intro k
 induction k with
 | zero =>
  intro i t hk h1 ht0 ht1
  have hil:i=(JV.mk h l).mems.length:=by omega
  rw [hil,List.drop_length]
  simp only [foldX]
  rw [<-hil]
  have hb1:decide ((i:Int)<(((JV.mk h l).mem:Nat):Int))=false:=decide_eq_false (by omega)
  exact loop_last (by simp) (body_of_sbodyK mixedz (y61_0 W h l d t ((JV.mk h l).mem:Nat) i) Fb18_z2 [] [] Fb18_z1)
 | succ k ih =>
  intro i t hk h1 ht0 ht1
  obtain ⟨p,hp⟩:=getOf (l:=(JV.mk h l).mems) (i:=i) (by omega)
  have hws:IntKind.i64.wrap ((i:Int)+1)=((i+1:Nat):Int):=wrap_succ (by omega)
  have hb1:decide ((i:Int)<(((JV.mk h l).mem:Nat):Int))=true:=decide_eq_true (by omega)
  have hpm:=mems_mem (List.mem_of_getElem? hp)
  have hpi:=mem_item hpm.2
  have hxn:=nmV_mem hnm hpm.2
  have hsn:=nmV_name hnm hpm.1
  have hle:=fun t1=>@stQ_le n d t t1 p
  have her:=fun e=>@stQ_err n d t e p
  rw [drop_get hp,foldX]
  obtain ⟨s,x⟩:=p
  have hz:=(List.getElem?_zip_eq_some (l₁:=h.names) (l₂:=l) (i:=i)).1 hp
  obtain ⟨hx,hv⟩:=hz
  simp only at hx hv hpi hpm hxn hsn
  have hget:(List.map AV.str h.names)[((i:Int)).toNat]?=some (AV.str s):=by rw [Int.toNat_natCast];exact strs_get hx
  have hget2:(encVs l)[((i:Int)).toNat]?=some (encV x):=by rw [Int.toNat_natCast];exact encVs_get hv
  have hc1:=mut_of_pure (by rfl) (joins70 W s)
  have hc2:=mut_of_pure (by rfl) (dollar69 W s)
  have goE:∀ e1,stQ n d (s,x) t=.error e1->BodyC Tryz.prog W [100000] (nslots Tryz.prog 61) (loopOf Tryz.prog 61 0) (S146 h l d (iA t) 0 i) .normal (S146 h l d .top e1 (i+1:Nat))->LoopC Tryz.prog W [100000] (nslots Tryz.prog 61) (loopOf Tryz.prog 61 0) (S146 h l d (iA t) 0 i) (.exit 0) (endK (match stQ n d (s,x) t with|.ok t'=>foldX (stQ n d) ((JV.mk h l).mems.drop (i+1)) t'|.error e=>.error e)):=by
   intro e1 e hb
   rw [e]
   exact loop_next hb (z61 W h l d e1 (her e1 e) (i+1))
  have goO:∀ t1,stQ n d (s,x) t=.ok t1->BodyC Tryz.prog W [100000] (nslots Tryz.prog 61) (loopOf Tryz.prog 61 0) (S146 h l d (iA t) 0 i) .normal (S146 h l d (iA t1) 0 (i+1:Nat))->LoopC Tryz.prog W [100000] (nslots Tryz.prog 61) (loopOf Tryz.prog 61 0) (S146 h l d (iA t) 0 i) (.exit 0) (endK (match stQ n d (s,x) t with|.ok t'=>foldX (stQ n d) ((JV.mk h l).mems.drop (i+1)) t'|.error e=>.error e)):=by
   intro t1 e hb
   have q:=hle t1 e
   rw [e]
   exact loop_next hb (ih (i+1) t1 (by omega) (by omega) (by omega) (q.2 ht1))
  cases ej:joinsB s with
  | true =>
   rw [ej] at hc1
   by_cases hno:x.kind ≠ 5\/x.items=[]
   ·have e:stQ n d (s,x) t=.error 42:=by unfold stQ;rw [if_pos ej,if_pos hno]
    refine goE 42 e ?_
    obtain ⟨h2,l2⟩:=x
    have hlp:=k61 W h l h2 l2 d 42 (by decide) i 0
    by_cases k5:h2.kind=5
    ·have hb3:(!decide (h2.kind=5))=false:=by rw [decide_eq_true k5];rfl
     have hl0:l2=[]:=by rcases hno with q|q;exact absurd k5 q;exact q
     have hb2:decide (((encVs l2).length:Int)=0)=true:=by rw [hl0];rfl
     exact body_of_sbodyK mixedz (h61e_0 W h l d t ((JV.mk h l).mem:Nat) i s h2 l2) Fb18_z3 [] [] Fb18_z1
    ·have hb3:(!decide (h2.kind=5))=true:=by rw [decide_eq_false k5];rfl
     exact body_of_sbodyK mixedz (h61k_0 W h l d t ((JV.mk h l).mem:Nat) i s h2 l2) Fb18_z3 [] [] Fb18_z1
   ·have k5:x.kind=5:=Classical.byContradiction fun q=>hno (.inl q)
    have hne:x.items ≠ []:=fun q=>hno (.inr q)
    have e:stQ n d (s,x) t=foldX (fun y t=>chkQ n y (d+1) t) x.items t:=by unfold stQ;rw [if_pos ej,if_neg hno]
    obtain ⟨h2,l2⟩:=x
    have hb3:(!decide (h2.kind=5))=false:=by rw [decide_eq_true (show h2.kind=5 from k5)];rfl
    have hb2:decide (((encVs l2).length:Int)=0)=false:=decide_eq_false (by rw [encVs_len];have:=List.length_pos_iff.2 (show l2 ≠ [] from hne);omega)
    have hcl2:=cntV_len (.mk h2 l2)
    simp only [JV.items] at hcl2
    have hlp:=inner61 W h l h2 l2 n hQ d hd (fun y hy=>by
     have:=mem_item (v:=.mk h2 l2) hy
     exact ⟨by omega,by omega,nmV_mem (v:=.mk h2 l2) hxn hy⟩) (by omega) i _ 0 t rfl (by omega) ht0 ht1
    rw [List.drop_zero] at hlp
    cases er:foldX (fun y t=>chkQ n y (d+1) t) l2 t with
    | ok t1 =>
     rw [er] at hlp
     unfold innK at hlp
     exact goO t1 (e.trans er) (body_of_sbodyK mixedz (g61o_0 W h l d t t1 ((JV.mk h l).mem:Nat) i s h2 l2) Fb18_z3 [] [] Fb18_z1)
    | error e1 =>
     rw [er] at hlp
     unfold innK at hlp
     exact goE e1 (e.trans er) (body_of_sbodyK mixedz (g61x_0 W h l d t e1 ((JV.mk h l).mem:Nat) i s h2 l2) Fb18_z3 [] [] Fb18_z1)
  | false =>
   rw [ej] at hc1
   cases ed:dollarB s with
   | true =>
    rw [ed] at hc2
    have e:stQ n d (s,x) t=.error 41:=by unfold stQ;rw [if_neg (by rw [ej];decide),if_pos ed]
    refine goE 41 e ?_
    obtain ⟨h2,l2⟩:=x
    exact body_of_sbodyK mixedz (o61_0 W h l d t ((JV.mk h l).mem:Nat) i s h2 l2 true) Fb18_z2 [] [] Fb18_z1
   | false =>
    rw [ed] at hc2
    have e:stQ n d (s,x) t=clR n s x d t:=by unfold stQ;rw [if_neg (by rw [ej];decide),if_neg (by rw [ed];decide)]
    have hcl:=clause105 W n hT s x d t (by omega) (by omega) hxn hsn hd ⟨ht0,ht1⟩
    cases er:clR n s x d t with
    | ok t1 =>
     rw [er] at hcl
     unfold ckO at hcl
     have hc3:=hcl
     refine goO t1 (e.trans er) ?_
     obtain ⟨h2,l2⟩:=x
     exact body_of_sbodyK mixedz (o61_1 W h l d t t1 ((JV.mk h l).mem:Nat) i s h2 l2 false) Fb18_z2 [] [] Fb18_z1
    | error e1 =>
     rw [er] at hcl
     unfold ckO at hcl
     have hc3:=hcl
     refine goE e1 (e.trans er) ?_
     obtain ⟨h2,l2⟩:=x
     exact body_of_sbodyK mixedz (x61_0 W h l d t e1 ((JV.mk h l).mem:Nat) i s h2 l2 false) Fb18_z2 [] [] Fb18_z1
theorem queryK_step (n:Nat) (hT:TestK W n) (hQ:QueryK W n):QueryK W (n+1):=by
 intro v d t hsz hcn hnm hd0 hd17 ht0 ht64
 obtain ⟨h,l⟩:=v
 rw [chkQ_eq]
 by_cases k6:h.kind=6
 case neg =>
  have hb1:(!decide (h.kind=6))=true:=by rw [decide_eq_false k6];rfl
  rw [if_pos (show (JV.mk h l).kind ≠ 6 from k6)]
  exact err_of W (mut_of_sfun mixedz call61 rfl (p61o_0 W h l d t) Fb18_z2)
 have hb1:(!decide (h.kind=6))=false:=by rw [decide_eq_true k6];rfl
 rw [if_neg (show ¬ (JV.mk h l).kind ≠ 6 from fun q=>q k6)]
 by_cases hd:16<d
 ·rw [if_pos hd]
  exact err_of W (mut_of_sfun mixedz call61 rfl (p61o_1 W h l d t) Fb18_z2)
 rw [if_neg hd]
 have hlp:=loop61 W h l n hT hQ (by omega) hcn hnm d ⟨hd0,by omega⟩ _ 0 t rfl (by omega) ht0 ht64
 rw [List.drop_zero] at hlp
 cases er:foldX (stQ n d) (JV.mk h l).mems t with
 | ok t2 =>
  rw [er] at hlp
  unfold endK at hlp
  exact mut_of_sfun mixedz call61 rfl (p61o_2 W h l d t t2) Fb18_z3
 | error e =>
  rw [er] at hlp
  unfold endK at hlp
  exact mut_of_sfun mixedz call61 rfl (p61x_2 W h l d t e) Fb18_z3
theorem checks:∀ n,TestK W n/\QueryK W n
 | 0=>⟨fun v d t h=>by omega,fun v d t h=>by omega⟩
 | n+1=>⟨testK_step W n (checks n).1 (checks n).2,queryK_step W n (checks n).1 (checks n).2⟩
def chkA:Except Int Int->AV
 | .ok t=>.tup [iA 0,iA t]
 | .error e=>.tup [iA e,.top]
theorem check16 {n:Nat} {q:JV} (hsz:sizeV q<n) (hcn:cntV q<=2 ^ 30) (hnm:nmV q):Pure Tryz.prog W 16 [encV q] (chkA (chkQ n q 0 0)):=by
 have h1:=(checks W n).2 q 0 0 hsz hcn hnm (Int.le_refl _) (by omega) (Int.le_refl _) (by omega)
 have hcl:cloL [encV q,iA 0]=true:=by simp [cloL,encV_clo,iA,AV.clo]
 cases er:chkQ n q 0 0 with
 | ok t =>
  rw [er] at h1
  unfold ckO at h1
  have hc:=mut_name (k1:=100000) (k2:=100001) (x:=.agg [iA 0,iA 0]) (y:=.agg [iA t,iA 0]) (rest:=[encV q,iA 0]) (by omega) rfl rfl rfl rfl hcl h1
  obtain ⟨h,l⟩:=q
  exact pure_of_mut rfl (mut_of_sfun mixedz call16 rfl (p16o_0 W h l t) Fb18_z2)
 | error e =>
  rw [er] at h1
  unfold ckO at h1
  have hc:=mut_name (k1:=100000) (k2:=100001) (x:=.agg [iA 0,iA 0]) (y:=.agg [.top,iA e]) (rest:=[encV q,iA 0]) (by omega) rfl rfl rfl rfl hcl h1
  obtain ⟨h,l⟩:=q
  exact pure_of_mut rfl (mut_of_sfun mixedz call16 rfl (p16x_0 W h l e) Fb18_z2)
end
end Go.Ac

namespace Go.Ac
open Go
end Go.Ac

set_option maxRecDepth 10000
set_option maxHeartbeats 1000000
namespace Go.Ac
open Go Go.Proofs
theorem call15:callable Tryz.prog 15=true:=kr
theorem live15 (W:World):Pure Tryz.prog W 15 [] (bA true):=pure_of_xfun (n:=30) (F:=1000) mixedz call15 rfl rfl (by kernel_rfl)
end Go.Ac

namespace Go.Ac
open Go Go.Proofs
set_option maxRecDepth 10000
set_option maxHeartbeats 1000000
theorem Fr1_z1 {cs} (h:Holds cs:=by simp only [Holds,and_true]<;>and_intros<;>first|exact zd):Holds cs:=h
def S60 (h:JH) (l:List JV) (m n i:Int):AS:=⟨[(1,iA m),(2,.gp 100000 0),(5,iA n),(6,iA i)],[(100000,.box (encV (.mk h l)) .own)]⟩
theorem b60_0 (W:World) (h:JH) (l:List JV) (m n i:Int) (h1:JH) (l1:List JV) (x:Int):sbody Tryz.prog W {tl:=[60],lp:=true} 60 0 [] [1,2,5,6] (S60 h l m n i) [bt,bt,bt,bt,bt,.lg,oS (eV h1 l1),ee,cR (iA x) [],ee]=.ok ((.normal,{t:=[(1,iA m),(2,.gp 100000 0),(5,.val (Value.int IntKind.i64 (IntKind.i64.wrap (n+x)))),(6,.val (Value.int IntKind.i64 (IntKind.i64.wrap (i+1))))],h:=[(100000,gB (eV h l))]}),[ee],MZ W 60 [.agg [.val (Value.int IntKind.i64 h1.kind),.val (Value.int IntKind.i64 h1.int),.str h1.3,sL 1 (List.map AV.str h1.names),sL 5 (encVs l1)],.val (Value.int IntKind.i64 (IntKind.i64.wrap (m - n)))] [] (.ret (iA x) [])::((encVs l)[i.toNat]?=some (eV h1 l1))::(0<=i)::(decide (n<=m)=true)::(d4 (decide (i<(↑(encVs l).length:Int))=true) [])):=kr
theorem e60_1 (W:World) (h:JH) (l:List JV) (m n i:Int):sbody Tryz.prog W {tl:=[60],lp:=true} 60 0 [] [5] (S60 h l m n i) [bt,bt,bt,bt,bf,ee]=.ok ((.exit 0,{t:=[(5,iA n)],h:=[]}),[ee],(decide (n<=m)=false)::(d4 (decide (i<(↑(encVs l).length:Int))=true) [])):=kr
theorem e60_2 (W:World) (h:JH) (l:List JV) (m n i:Int):sbody Tryz.prog W {tl:=[60],lp:=true} 60 0 [] [5] (S60 h l m n i) [bf,bf,bf,bf,ee]=.ok ((.exit 0,{t:=[(5,iA n)],h:=[]}),[aE 9999999],d4 (decide (i<(↑(encVs l).length:Int))=false) []):=kr
theorem p60_0 (W:World) (h:JH) (l:List JV) (m r:Int):sfun Tryz.prog W {tl:=[60],lp:=true} 1000 5 60 [eV h l,iA m] [] 100000 [ee,Ans.loop [1,2,5,6] (.exit 0) {t:=[(5,iA r)],h:=[]},ee] []=.ok (.ret (.val (Value.int IntKind.i64 r)) [],[ee],[LZ W [] 60 0 {t:=[(1,iA m),(2,.gp 100000 0),(5,.val (Value.int IntKind.i64 (IntKind.i64.wrap (1+(↑(List.map AV.str h.names).length:Int))))),(6,.val (Value.int IntKind.i64 0))],h:=[(100000,gB (.agg [.val (Value.int IntKind.i64 h.kind),.val (Value.int IntKind.i64 h.int),.str h.3,sL 1 (List.map AV.str h.names),sL 5 (encVs l)]))]} (.exit 0) {t:=[(5,iA r)],h:=[]}]):=kr
theorem call60:callable Tryz.prog 60=true:=kr
theorem loop60 (W:World) (h:JH) (l:List JV) (m r:Int) (hm:0<=m) (hm2:m<=2 ^ 32) (hv:okVs l) (hl:l.length<=2 ^ 50)
 (ih:∀ (i:Nat) (x:JV) (k:Int),l[i]?=some x->0<=k->k<=2 ^ 32->Pure Tryz.prog W 60 [encV x,iA k] (iA (partsV x k))) :
 ∀ q:Nat×Int,(q.1<=l.length/\r=partsL (l.drop q.1) m q.2/\1<=q.2/\q.2<=m+1+2 ^ 50)->LoopC Tryz.prog W [] (nslots Tryz.prog 60) (loopOf Tryz.prog 60 0) (S60 h l m q.2 q.1) (.exit 0) ⟨[(5,iA r)],[]⟩:=by
 refine loopC_inv (fun q:Nat×Int=>S60 h l m q.2 q.1) (fun q=>q.1<=l.length/\r=partsL (l.drop q.1) m q.2/\1<=q.2/\q.2<=m+1+2 ^ 50) (fun q=>l.length - q.1) (by simp) ?_
 rintro ⟨i,n⟩ ⟨h1,h2,h3,h4⟩
 simp only at h1 h2 h3 h4 ⊢
 by_cases hi:i<l.length
 ·obtain ⟨x,hx⟩:=getOf hi
  have hp:=partsL_bd
  by_cases hn:n<=m
  ·left
   have hb:=partsV_bd x (m - n) (okVs_get hv hx) (by omega)
   have hih:=ih i x (m - n) hx (by omega) (by omega)
   refine ⟨(i+1,n+partsV x (m - n)),⟨by simp only;omega,?_,by simp only;omega,by simp only;omega⟩,by simp only;omega,?_⟩
   ·rw [h2,drop_get hx,partsL,if_pos hn]
   ·cases x with
    | mk h1 l1 =>
     refine body_of_sbody mixedz (b60_0 W h l m n i h1 l1 (partsV (.mk h1 l1) (m - n))) (by simp only [Holds,and_true];all_goals (and_intros<;>first|exact .inl trivial|(rw [Int.toNat_natCast];exact encVs_get hx;done)|(rw [wrap_in (by omega)];exact mut_of_pure (by rfl) hih;done) |exact trivial|assumption|(simp only [decide_eq_true_eq,decide_eq_false_iff_not,Bool.not_eq_true',Bool.not_eq_false',encVs_len,List.length_map];omega)|omega)) ?_
     rw [wrap_in (by omega),wrap_in (by omega)];rfl
  ·right
   refine body_of_sbody mixedz (e60_1 W h l m n i) Fr1_z1 ?_
   rw [h2,drop_get hx,partsL,if_neg hn]
 ·right
  refine body_of_sbody mixedz (e60_2 W h l m n i) Fr1_z1 ?_
  rw [h2,List.drop_of_length_le (by omega)];rfl
theorem parts60 (W:World):∀ (k:Nat) (v:JV) (m:Int),sizeV v<k->okV v->0<=m->m<=2 ^ 32->Pure Tryz.prog W 60 [encV v,iA m] (iA (partsV v m))
 | 0,_,_,h,_,_,_=>by omega
 | k+1,.mk h l,m,hk,hv,h1,h2=>by
  have hn:=okV_nm hv
  have hl:=okV_ln hv
  simp only [JV.names,JV.hd,JV.items] at hn hl
  have hlp:=loop60 W h l m (partsV (.mk h l) m) h1 h2 hv.2.2 hl (fun i x k' hx h3 h4=>parts60 W k x k' (by have:=sizeV_item (v:=.mk h l) hx;omega) (okVs_get hv.2.2 hx) h3 h4) (0,1+h.names.length) ⟨by simp,by simp only [List.drop_zero];rfl,by simp only;omega,by simp only;omega⟩
  refine pure_of_mut rfl (mut_of_sfun mixedz call60 rfl (p60_0 W h l m (partsV (.mk h l) m)) ⟨?_,trivial⟩)
  rw [wrap_in (by simp only [List.length_map];omega),List.length_map]
  exact hlp
theorem parts (W:World) (v:JV) (m:Int) (hv:okV v) (h1:0<=m) (h2:m<=2 ^ 32):Pure Tryz.prog W 60 [encV v,iA m] (iA (partsV v m)):=parts60 W _ v m (Nat.lt_succ_self _) hv h1 h2
end Go.Ac

namespace Go.Ac
open Go Go.Proofs
set_option maxRecDepth 10000
set_option maxHeartbeats 1000000
theorem Fb19_z1 {kp f ph σ σ'} (h:MatchK kp f ph σ σ':=by exact ⟨by rfl,(by simp only [S28,B28,S14,E14,tOK,List.map_cons,List.map_nil,and_true]<;>exact zt),(by simp only [S28,B28,S14,E14,hOK,List.map_cons,List.map_nil,and_true]<;>exact zh),(by simp only [S28,B28,S14,E14,liveT,List.map_cons,List.map_nil,and_true]<;>exact zv),(by simp only [S28,B28,S14,E14,liveH,List.map_cons,List.map_nil,and_true]<;>exact zv)⟩):MatchK kp f ph σ σ':=h
theorem Fb19_z3 {cs} (h:Holds cs:=by simp only [Holds,and_true]<;>and_intros<;>first|exact zd):Holds cs:=h
theorem Fb19_z4 {cs} (h:Holds cs:=by simp only [Holds,and_true]<;>and_intros<;>first|exact zd|exact Fb19_z1):Holds cs:=h
def B28 (h:JH) (n m:Nat):AV:=.agg [iA h.kind,iA 0,.str [],.gs 100003 0 n,.gs 100004 0 m]
def S28 (h:JH) (l:List JV) (ns:List (List UInt8)) (ks:List JV) (i:Int):AS:=⟨[(1,.gp 100000 0),(2,.gp 100001 0),(3,.gp 100002 0),(4,iA i)],[(100000,.box (encV (.mk h l)) .own),(100001,.box (.agg [iA 0,iA 0,.str [],.val (.slice none 0 0),.val (.slice none 0 0)]) .own),(100002,.box (B28 h ns.length ks.length) .own),(100003,.arr 9 1 (ns.map AV.str) .own),(100004,.arr 25 5 (encVs ks) .own)]⟩
def S14 (l:List JV) (n:Int) (i:Nat):AS:=⟨[(0,.sl 5 (encVs l) []),(3,iA n),(4,iA i)],[]⟩
def E14 (n:Int):AS:=⟨[(3,iA n)],[]⟩
theorem b14_0 (W:World) (l:List JV) (n m:Int) (i:Nat) (h:JH) (k:List JV):sQ W {lp:=true,tl:=[60]} 14 0 [] [0,3,4] (S14 l n i) [bt,aE 1,oS (eV h k),ee,cR (iA m) [],ee]=.ok ((.normal,{t:=[(0,sL 5 (encVs l)),(3,iA (IntKind.i64.wrap (n+m))),(4,iA (IntKind.i64.wrap ((i:Int)+1)))],h:=[]}),[ee],[MZ W 60 [eV h k,iA 5000] [] (.ret (iA m) []),(encVs l)[(i:Int).toNat]?=some (eV h k),decide ((i:Int)<(↑(encVs l).length:Int))=true]):=kr
theorem b14_1 (W:World) (l:List JV) (n:Int) (i:Nat) (h:JH):sQ W {lp:=true,tl:=[60]} 14 0 [] [0,3,4] (S14 l n i) [bf,ee]=.ok ((.exit 0,{t:=[(0,sL 5 (encVs l)),(3,iA n),(4,iA (i:Int))],h:=[]}),[ee],[decide ((i:Int)<(↑(encVs l).length:Int))=false]):=kr
theorem p14_0 (W:World) (l:List JV) (n:Int):sF W {lp:=true} 14 [.sl 5 (encVs l) []] [] 100000 [ee,.loopM [] [] (S14 l 0 0) (.exit 0) (E14 n),ee] []=.ok (.ret (bA (decide (5000<n))) [],[ee],[LZ W [] 14 0 (S14 l 0 0) (.exit 0) (E14 n),MatchK [] [] [] {t:=[(0,sL 5 (encVs l)),(3,iA 0),(4,iA 0)],h:=[]} (S14 l 0 0)]):=kr
theorem call14:callable Tryz.prog 14=true:=kr
theorem pushS (ns:List (List UInt8)) (x:List UInt8):List.take ns.length (List.map AV.str ns)++[AV.str x]=List.map AV.str (ns++[x]):=by
 rw [List.take_of_length_le (by simp),List.map_append];rfl
section
variable (W:World)
theorem loop14 (l:List JV) (hl:cntVs l<=2 ^ 30):∀ (k i:Nat) (n:Int),l.length - i=k->i<=l.length->∃ n',LoopC Tryz.prog W [] (nslots Tryz.prog 14) (loopOf Tryz.prog 14 0) (S14 l n i) (.exit 0) (E14 n'):=by
 have hln:=cntVs_len l
 intro k
 induction k with
 | zero =>
  intro i n hk h1
  exact ⟨n,loop_last (by simp) (body_of_sbodyK mixedz (b14_1 W l n i ⟨0,0,[],[]⟩) Fb19_z3 [] [] Fb19_z1)⟩
 | succ k ih =>
  intro i n hk h1
  obtain ⟨x,hx⟩:=getOf (l:=l) (i:=i) (by omega)
  have hws:IntKind.i64.wrap ((i:Int)+1)=((i+1:Nat):Int):=wrap_succ (by omega)
  have hget:(encVs l)[((i:Int)).toNat]?=some (encV x):=by rw [Int.toNat_natCast];exact encVs_get hx
  have hc:=mut_of_pure (by simp only [cloL,encV_clo,Bool.and_self];rfl) (parts W x 5000 (okV_cnt x (by have:=cntVs_get hx;omega)) (by omega) (by omega))
  obtain ⟨n',h'⟩:=ih (i+1) (IntKind.i64.wrap (n+partsV x 5000)) (by omega) (by omega)
  obtain ⟨h2,l2⟩:=x
  exact ⟨n',loop_next (body_of_sbodyK mixedz (b14_0 W l n _ i h2 l2) Fb19_z3 [] [] Fb19_z1) h'⟩
theorem large14 (l:List JV) (hl:cntVs l<=2 ^ 30):∃ b,Pure Tryz.prog W 14 [.sl 5 (encVs l) []] (bA b):=by
 obtain ⟨n,hlp⟩:=loop14 W l hl l.length 0 0 (by simp) (by omega)
 exact ⟨_,pure_of_mut rfl (mut_of_sfun mixedz call14 rfl (p14_0 W l n) Fb19_z4)⟩
end
end Go.Ac

namespace Go.Ac
open Go Go.Proofs
set_option maxRecDepth 10000
set_option maxHeartbeats 1000000
end Go.Ac

namespace Go.Ac
open Go
end Go.Ac

namespace Go.Ac
open Go Go.Proofs
set_option maxRecDepth 10000
set_option maxHeartbeats 2000000
section
variable (W:World)
end
end Go.Ac

namespace Go.Ac
open Go Go.Proofs
set_option maxRecDepth 10000
set_option maxHeartbeats 4000000
section
variable {A:JV->List JV->Bool} {M:JV->JV->Bool} {x:JV} {l:List JV}
end
section
variable (W:World)
end
end Go.Ac

namespace Go.Ac
open Go
def neededF (s:List UInt8):Int:=if s=sEq then 1 else if s=sGt then 2 else if s=sGte then 3 else if s=sLt then 4 else if s=sLte then 5 else if s=sIn then 6 else 0
abbrev Nd:=List UInt8×Int×JV
def needT (s:List UInt8) (ms:List (List UInt8×JV)):List Nd:=ms.flatMap fun p=>if 0<neededF p.1 then [(s,neededF p.1,p.2)] else []
def clauseM (n:Nat) (v:JV):List (List UInt8×JV):=if isTestB v then (match n with|0=>[]|_+1=>v.mems) else [(sEq,v)]
def needF:Nat->JV->List Nd
 | 0,_=>[]
 | n+1,q=>q.mems.flatMap fun p=>if joinsB p.1 then (if p.1=sAnd then p.2.items.flatMap (needF n) else []) else needT p.1 (clauseM n p.2)
def needG (n:Nat) (p:List UInt8×JV):List Nd:=if joinsB p.1 then (if p.1=sAnd then p.2.items.flatMap (needF n) else []) else needT p.1 (clauseM n p.2)
theorem needF_eq (n:Nat) (q:JV):needF (n+1) q=q.mems.flatMap (needG n):=by rw [needF];rfl
theorem needT_len (s:List UInt8) (ms:List (List UInt8×JV)):(needT s ms).length<=ms.length:=by
 unfold needT
 induction ms with
 | nil=>simp
 | cons p ms ih=>simp only [List.flatMap_cons,List.length_append,List.length_cons];split<;>simp only [List.length_cons,List.length_nil]<;>omega
theorem clauseM_len (n:Nat) (v:JV):(clauseM n v).length<=cntV v:=by
 have:=cntV_len v
 have h1:=v.mem_names
 have h2:=v.mems_len
 unfold clauseM
 split
 ·cases n with
  | zero=>simp
  | succ n=>simp only;omega
 ·simp only [List.length_cons,List.length_nil];omega
theorem need_len:∀ (n:Nat) (q:JV),(needF n q).length<=cntV q
 | 0,q=>by simp [needF]
 | n+1,q=>by
  rw [needF_eq,cntV_eq]
  have:=zip_cnt (needG n) (fun p=>by
   have h1:=flat_cnt (needF n) (need_len n) p.2.items
   have h2:=needT_len p.1 (clauseM n p.2)
   have h3:=clauseM_len n p.2
   have h4:=cntV_eq p.2
   unfold needG
   split
   ·split
    ·omega
    ·simp
   ·omega) q.names q.items
  unfold JV.mems;omega
theorem chk_test {n:Nat} {q:JV} {d c c':Int} (h:chkQ (n+1) q d c=.ok c') {p:List UInt8×JV} (hp:p ∈ q.mems) (hj:joinsB p.1=false) (ht:isTestB p.2=true):∃ d u u',chkT n p.2 d u=.ok u':=by
 rw [chkQ] at h
 split at h
 ·cases h
 split at h
 ·cases h
 obtain ⟨u,u',hu⟩:=foldX_all h p hp
 rw [hj] at hu
 simp only [Bool.false_eq_true,if_false] at hu
 split at hu
 ·cases hu
 split at hu
 ·cases hu
 first|exact ⟨_,_,_,hu⟩|(rw [if_pos ht] at hu;exact ⟨_,_,_,hu⟩)
end Go.Ac

namespace Go.Ac
open Go Go.Proofs
set_option maxRecDepth 10000
set_option maxHeartbeats 2000000
def Q73 (ns acc:List AV) (i:Nat):AS:=⟨[(3,.gs 100001 0 acc.length),(19,.sl 1 ns []),(20,iA ns.length),(21,iA i)],[(100001,.arr 58 7 acc .own)]⟩
def G73 (ns acc:List AV) (i:Nat):AS:=⟨[(3,.gs 100001 0 acc.length),(37,.sl 1 ns []),(38,iA ns.length),(39,iA i)],[(100001,.arr 58 7 acc .own)]⟩
def C73 (s:List UInt8) (P T acc:List AV) (i:Nat):AS:=⟨[(3,.gs 100001 0 acc.length),(10,.gp 100000 0),(52,.sl 7 T []),(53,iA T.length),(54,iA i)],[(100000,.box (.agg [.str s,.sl 1 P [],.sl 7 T []]) .own),(100001,.arr 58 7 acc .own)]⟩
def E73 (acc:List AV):AS:=⟨[(3,.gs 100001 0 acc.length)],[(100001,.arr 58 7 acc .own)]⟩
def trA (nm:List UInt8) (h:JH) (l:List JV) (kf:Nat) (ys:List AV):AV:=.agg [.str nm,iA h.kind,iA h.int,.str h.text,.sl 1 (h.names.map .str) [],.sl 5 (encVs l) [],.fn (.func kf) [] ys]
def ndA (s:List UInt8) (op:Int) (h:JH) (l:List JV):AV:=.agg [.str s,iA op,iA h.kind,iA h.int,.str h.text,.sl 1 (h.names.map .str) [],.sl 5 (encVs l) []]
def W8:List AV:=[.str [],.str [36,101,113],.str [36,103,116],.str [36,103,116,101],.str [36,108,116],.str [36,108,116,101],.str [36,105,110]]
def S8 (hd:JH) (ld:List JV) (N:List AV) (i:Nat):AS:=⟨[(3,.gp 100001 0),(9,.sl 7 N []),(10,.gs 100003 0 7),(11,iA i)],[(100001,.box (encV (.mk hd ld)) .own),(100003,.arr 9 1 W8 .own)]⟩
def E8:AS:=⟨[],[]⟩
theorem bqg_0 (W:World) (ns acc r:List AV) (i:Nat) (Q:List AV) (s2:List UInt8):sQ W {lp:=true,tl:=[73]} 73 0 [] [3,19,20,21] (Q73 ns acc i) [bt,aE 1,oS (.ifc 155 (.agg [.str s2,sL 1 Q])),ee,cR (sL 7 r) [],aE 1,.lg,.lg,ee]=.ok ((.normal,{t:=[(3,.gs 100002 0 (acc.length+r.length)),(19,sL 1 ns),(20,iA (ns.length:Int)),(21,iA (IntKind.i64.wrap ((i:Int)+1)))],h:=[(100001,.dead),(100002,.arr 58 7 (List.take acc.length acc++r) .own)]}),[ee],[(acc.length+r.length) * 104<=140737488355328,(St.own=St.own\/St.own=St.shr/\acc.length=acc.length)/\acc.length<=acc.length,MZ W 73 [.ifc 155 (.agg [.str s2,sL 1 Q])] [] (.ret (sL 7 r) []),ns[(i:Int).toNat]?=some (AV.ifc 155 (.agg [.str s2,sL 1 Q])),decide ((i:Int)<(ns.length:Int))=true]):=kr
theorem bqg_1 (W:World) (ns acc:List AV) (i:Nat):sQ W {lp:=true,tl:=[73]} 73 0 [] [3,19,20,21] (Q73 ns acc i) [bf,ee]=.ok ((.exit 1,{t:=[(3,.gs 100001 0 acc.length),(19,sL 1 ns),(20,iA (ns.length:Int)),(21,iA (i:Int))],h:=[(100001,.arr 58 7 acc .own)]}),[ee],[decide ((i:Int)<(ns.length:Int))=false]):=kr
theorem bqc_0 (W:World) (ns acc r:List AV) (i:Nat) (P2 T2:List AV) (s2:List UInt8):sQ W {lp:=true,tl:=[73]} 73 0 [] [3,19,20,21] (Q73 ns acc i) [bt,aE 1,oS (.ifc 152 (.agg [.str s2,sL 1 P2,sL 7 T2])),ee,cR (sL 7 r) [],aE 1,.lg,.lg,ee]=.ok ((.normal,{t:=[(3,.gs 100002 0 (acc.length+r.length)),(19,sL 1 ns),(20,iA (ns.length:Int)),(21,iA (IntKind.i64.wrap ((i:Int)+1)))],h:=[(100001,.dead),(100002,.arr 58 7 (List.take acc.length acc++r) .own)]}),[ee],[(acc.length+r.length) * 104<=140737488355328,(St.own=St.own\/St.own=St.shr/\acc.length=acc.length)/\acc.length<=acc.length,MZ W 73 [.ifc 152 (.agg [.str s2,sL 1 P2,sL 7 T2])] [] (.ret (sL 7 r) []),ns[(i:Int).toNat]?=some (AV.ifc 152 (.agg [.str s2,sL 1 P2,sL 7 T2])),decide ((i:Int)<(ns.length:Int))=true]):=kr
theorem bg_0 (W:World) (ns acc r:List AV) (i:Nat) (Q:List AV):sQ W {lp:=true,tl:=[73]} 73 1 [] [3,37,38,39] (G73 ns acc i) [bt,aE 1,oS (.ifc 105 (.agg [sL 1 Q])),ee,cR (sL 7 r) [],aE 1,.lg,.lg,ee]=.ok ((.normal,{t:=[(3,.gs 100002 0 (acc.length+r.length)),(37,sL 1 ns),(38,iA (ns.length:Int)),(39,iA (IntKind.i64.wrap ((i:Int)+1)))],h:=[(100001,.dead),(100002,.arr 58 7 (List.take acc.length acc++r) .own)]}),[ee],[(acc.length+r.length) * 104<=140737488355328,(St.own=St.own\/St.own=St.shr/\acc.length=acc.length)/\acc.length<=acc.length,MZ W 73 [.ifc 105 (.agg [sL 1 Q])] [] (.ret (sL 7 r) []),ns[(i:Int).toNat]?=some (AV.ifc 105 (.agg [sL 1 Q])),decide ((i:Int)<(ns.length:Int))=true]):=kr
theorem bg_1 (W:World) (ns acc:List AV) (i:Nat):sQ W {lp:=true,tl:=[73]} 73 1 [] [3,37,38,39] (G73 ns acc i) [bf,ee]=.ok ((.exit 3,{t:=[(3,.gs 100001 0 acc.length),(37,sL 1 ns),(38,iA (ns.length:Int)),(39,iA (i:Int))],h:=[(100001,.arr 58 7 acc .own)]}),[ee],[decide ((i:Int)<(ns.length:Int))=false]):=kr
theorem bc_0 (W:World) (s nm:List UInt8) (P T acc:List AV) (i:Nat) (h:JH) (l:List JV) (kf:Nat) (ys:List AV) (op:Int):sQ W {lp:=true,tl:=[114]} 73 2 [] [3,10,52,53,54] (C73 s P T acc i) [bt,aE 1,oS (trA nm h l kf ys),ee,cR (iA op) [],bt,aE 1,.lg,.lg,ee]=.ok ((.normal,{t:=[(3,.gs 100004 0 (acc.length+[AV.agg [.str s,iA op,iA h.kind,iA h.int,.str h.3,sL 1 (List.map AV.str h.names),sL 5 (encVs l)]].length)),(10,.gp 100000 0),(52,sL 7 T),(53,iA (T.length:Int)),(54,iA (IntKind.i64.wrap ((i:Int)+1)))],h:=[(100000,gB (.agg [.str s,sL 1 P,sL 7 T])),(100001,.dead),(100002,gB (.agg [.str nm,iA h.kind,iA h.int,.str h.3,sL 1 (List.map AV.str h.names),sL 5 (encVs l),.fn (Fn.func kf) [] ys])),(100003,.arr 58 7 [.agg [.str s,iA op,iA h.kind,iA h.int,.str h.3,sL 1 (List.map AV.str h.names),sL 5 (encVs l)]] .own),(100004,.arr 58 7 (List.take acc.length acc++[AV.agg [.str s,iA op,iA h.kind,iA h.int,.str h.3,sL 1 (List.map AV.str h.names),sL 5 (encVs l)]]) .own)]}),[ee],[(acc.length+[AV.agg [.str s,iA op,iA h.kind,iA h.int,.str h.3,sL 1 (List.map AV.str h.names),sL 5 (encVs l)]].length) * 104<=140737488355328,(St.own=St.own\/St.own=St.shr/\acc.length=acc.length)/\acc.length<=acc.length,decide (0<op)=true,MZ W 114 [.str nm] [] (.ret (iA op) []),T[(i:Int).toNat]?=some (AV.agg [.str nm,iA h.kind,iA h.int,.str h.3,sL 1 (List.map AV.str h.names),sL 5 (encVs l),.fn (Fn.func kf) [] ys]),decide ((i:Int)<(T.length:Int))=true]):=kr
theorem bc_1 (W:World) (s nm:List UInt8) (P T acc:List AV) (i:Nat) (h:JH) (l:List JV) (kf:Nat) (ys:List AV) (op:Int):sQ W {lp:=true,tl:=[114]} 73 2 [] [3,10,52,53,54] (C73 s P T acc i) [bt,aE 1,oS (trA nm h l kf ys),ee,cR (iA op) [],bf,ee]=.ok ((.normal,{t:=[(3,.gs 100001 0 acc.length),(10,.gp 100000 0),(52,sL 7 T),(53,iA (T.length:Int)),(54,iA (IntKind.i64.wrap ((i:Int)+1)))],h:=[(100000,gB (.agg [.str s,sL 1 P,sL 7 T])),(100001,.arr 58 7 acc .own),(100002,gB (.agg [.str nm,iA h.kind,iA h.int,.str h.3,sL 1 (List.map AV.str h.names),sL 5 (encVs l),.fn (Fn.func kf) [] ys]))]}),[ee],[decide (0<op)=false,MZ W 114 [.str nm] [] (.ret (iA op) []),T[(i:Int).toNat]?=some (AV.agg [.str nm,iA h.kind,iA h.int,.str h.3,sL 1 (List.map AV.str h.names),sL 5 (encVs l),.fn (Fn.func kf) [] ys]),decide ((i:Int)<(T.length:Int))=true]):=kr
theorem bc_2 (W:World) (s:List UInt8) (P T acc:List AV) (i:Nat):sQ W {lp:=true,tl:=[114]} 73 2 [] [3,10,52,53,54] (C73 s P T acc i) [bf,ee]=.ok ((.exit 5,{t:=[(3,.gs 100001 0 acc.length),(10,.gp 100000 0),(52,sL 7 T),(53,iA (T.length:Int)),(54,iA (i:Int))],h:=[(100000,gB (.agg [.str s,sL 1 P,sL 7 T])),(100001,.arr 58 7 acc .own)]}),[ee],[decide ((i:Int)<(T.length:Int))=false]):=kr
theorem pq_0 (W:World) (ns acc:List AV):sF W {lp:=true,fin:=9} 73 [.ifc 105 (.agg [.sl 1 ns []])] [] 100000 [ee,.loopM [] [(100001,7)] (Q73 ns [] 0) (.exit 1) (E73 acc),ee,.fin [] [] (.gs 100001 0 acc.length) [(100001,.arr 58 7 acc .own)],ee] []=.ok (.ret (.gs 100001 0 acc.length) [(100001,.arr 58 7 acc .own)],[ee],[MatchK [] [] [] {t:=[(0,.gs 100001 0 acc.length)],h:=[(100001,.arr 58 7 acc .own)]} {t:=[(0,.gs 100001 0 acc.length)],h:=[(100001,.arr 58 7 acc .own)]},LZ W [] 73 0 (Q73 ns [] 0) (.exit 1) (E73 acc),MatchK [] [] [(100001,7)] {t:=[(3,.val (Value.slice none 0 0)),(19,sL 1 ns),(20,iA (ns.length:Int)),(21,iA 0)],h:=[(100000,gB (.agg [sL 1 ns]))]} (Q73 ns [] 0)]):=kr
theorem pg_0 (W:World) (ns acc:List AV):sF W {lp:=true,fin:=9} 73 [.ifc 155 (.agg [.str [36,97,110,100],.sl 1 ns []])] [] 100000 [ee,.loopM [] [(100001,7)] (G73 ns [] 0) (.exit 3) (E73 acc),ee,.fin [] [] (.gs 100001 0 acc.length) [(100001,.arr 58 7 acc .own)],ee] []=.ok (.ret (.gs 100001 0 acc.length) [(100001,.arr 58 7 acc .own)],[ee],[MatchK [] [] [] {t:=[(0,.gs 100001 0 acc.length)],h:=[(100001,.arr 58 7 acc .own)]} {t:=[(0,.gs 100001 0 acc.length)],h:=[(100001,.arr 58 7 acc .own)]},LZ W [] 73 1 (G73 ns [] 0) (.exit 3) (E73 acc),MatchK [] [] [(100001,7)] {t:=[(3,.val (Value.slice none 0 0)),(37,sL 1 ns),(38,iA (ns.length:Int)),(39,iA 0)],h:=[(100000,gB (.agg [.str [36,97,110,100],sL 1 ns]))]} (G73 ns [] 0)]):=kr
theorem pgn_0 (W:World) (s:List UInt8) (ns:List AV):sF W {lp:=true} 73 [.ifc 155 (.agg [.str s,.sl 1 ns []])] [] 100000 [aE 2,bt,ee] []=.ok (.ret (.val (Value.slice none 0 0)) [],[ee],[(!decide (s=[36,97,110,100]))=true]):=kr
theorem pc_0 (W:World) (s:List UInt8) (P T acc:List AV):sF W {lp:=true,fin:=9} 73 [.ifc 152 (.agg [.str s,.sl 1 P [],.sl 7 T []])] [] 100000 [ee,.loopM [] [(100001,7)] (C73 s P T [] 0) (.exit 5) (E73 acc),ee,.fin [] [] (.gs 100001 0 acc.length) [(100001,.arr 58 7 acc .own)],ee] []=.ok (.ret (.gs 100001 0 acc.length) [(100001,.arr 58 7 acc .own)],[ee],[MatchK [] [] [] {t:=[(0,.gs 100001 0 acc.length)],h:=[(100001,.arr 58 7 acc .own)]} {t:=[(0,.gs 100001 0 acc.length)],h:=[(100001,.arr 58 7 acc .own)]},LZ W [] 73 2 (C73 s P T [] 0) (.exit 5) (E73 acc),MatchK [] [] [(100001,7)] {t:=[(3,.val (Value.slice none 0 0)),(10,.gp 100000 0),(52,sL 7 T),(53,iA (T.length:Int)),(54,iA 0)],h:=[(100000,gB (.agg [.str s,sL 1 P,sL 7 T]))]} (C73 s P T [] 0)]):=kr
theorem p114_0 (W:World) (s:List UInt8):sF W {lp:=true} 114 [.str s] [] 100000 [bt,ee] []=.ok (.ret (iA 1) [],[ee],[decide (s=[36,101,113])=true]):=kr
theorem p114_1 (W:World) (s:List UInt8):sF W {lp:=true} 114 [.str s] [] 100000 [bf,bt,ee] []=.ok (.ret (iA 2) [],[ee],[decide (s=[36,103,116])=true,decide (s=[36,101,113])=false]):=kr
theorem p114_2 (W:World) (s:List UInt8):sF W {lp:=true} 114 [.str s] [] 100000 [bf,bf,bt,ee] []=.ok (.ret (iA 3) [],[ee],[decide (s=[36,103,116,101])=true,decide (s=[36,103,116])=false,decide (s=[36,101,113])=false]):=kr
theorem p114_3 (W:World) (s:List UInt8):sF W {lp:=true} 114 [.str s] [] 100000 [bf,bf,bf,bt,ee] []=.ok (.ret (iA 4) [],[ee],[decide (s=[36,108,116])=true,decide (s=[36,103,116,101])=false,decide (s=[36,103,116])=false,decide (s=[36,101,113])=false]):=kr
theorem p114_4 (W:World) (s:List UInt8):sF W {lp:=true} 114 [.str s] [] 100000 [bf,bf,bf,bf,bt,ee] []=.ok (.ret (iA 5) [],[ee],[decide (s=[36,108,116,101])=true,decide (s=[36,108,116])=false,decide (s=[36,103,116,101])=false,decide (s=[36,103,116])=false,decide (s=[36,101,113])=false]):=kr
theorem p114_5 (W:World) (s:List UInt8):sF W {lp:=true} 114 [.str s] [] 100000 [bf,bf,bf,bf,bf,bt,ee] []=.ok (.ret (iA 6) [],[ee],[decide (s=[36,105,110])=true,decide (s=[36,108,116,101])=false,decide (s=[36,108,116])=false,decide (s=[36,103,116,101])=false,decide (s=[36,103,116])=false,decide (s=[36,101,113])=false]):=kr
theorem p114_6 (W:World) (s:List UInt8):sF W {lp:=true} 114 [.str s] [] 100000 [bf,bf,bf,bf,bf,bf,ee] []=.ok (.ret (iA 0) [],[ee],[decide (s=[36,105,110])=false,decide (s=[36,108,116,101])=false,decide (s=[36,108,116])=false,decide (s=[36,103,116,101])=false,decide (s=[36,103,116])=false,decide (s=[36,101,113])=false]):=kr
theorem p31_0 (W:World) (N C:List AV) (t:Int):sF W {lp:=true,tl:=[73]} 31 [(.ip (.agg [.sl 1 C [],iA t]) 0)] [] 100000 [ee,cR (sL 7 N) [],ee] []=.ok (.ret (sL 7 N) [],[ee],[MZ W 73 [.ifc 105 (.agg [sL 1 C])] [] (.ret (sL 7 N) [])]):=kr
theorem Fn1_z1 {kp f ph σ σ'} (h:MatchK kp f ph σ σ':=by exact ⟨by rfl,(by simp only [Q73,G73,C73,E73,S8,E8,tOK,List.map_cons,List.map_nil,and_true]<;>exact zt),(by simp only [Q73,G73,C73,E73,S8,E8,hOK,List.map_cons,List.map_nil,and_true]<;>exact zh),(by simp only [Q73,G73,C73,E73,S8,E8,liveT,List.map_cons,List.map_nil,and_true]<;>exact zv),(by simp only [Q73,G73,C73,E73,S8,E8,liveH,List.map_cons,List.map_nil,and_true]<;>exact zv)⟩):MatchK kp f ph σ σ':=h
theorem Fn1_z2 {cs} (h:Holds cs:=by simp only [Holds,and_true]<;>and_intros<;>first|assumption|exact zd|exact Fn1_z1):Holds cs:=h
theorem call73:callable Tryz.prog 73=true:=kr
theorem call114:callable Tryz.prog 114=true:=kr
theorem call31:callable Tryz.prog 31=true:=kr
theorem needed114 (W:World) (s:List UInt8):Pure Tryz.prog W 114 [.str s] (iA (neededF s)):=by
 unfold neededF
 by_cases h1:s=sEq
 ·rw [if_pos h1];have c1:=decide_eq_true h1;exact pure_of_mut rfl (mut_of_sfun mixedz call114 rfl (p114_0 W s) ⟨c1,trivial⟩)
 rw [if_neg h1]
 have c1:=decide_eq_false h1
 by_cases h2:s=sGt
 ·rw [if_pos h2];have c2:=decide_eq_true h2;exact pure_of_mut rfl (mut_of_sfun mixedz call114 rfl (p114_1 W s) ⟨c2,c1,trivial⟩)
 rw [if_neg h2]
 have c2:=decide_eq_false h2
 by_cases h3:s=sGte
 ·rw [if_pos h3];have c3:=decide_eq_true h3;exact pure_of_mut rfl (mut_of_sfun mixedz call114 rfl (p114_2 W s) ⟨c3,c2,c1,trivial⟩)
 rw [if_neg h3]
 have c3:=decide_eq_false h3
 by_cases h4:s=sLt
 ·rw [if_pos h4];have c4:=decide_eq_true h4;exact pure_of_mut rfl (mut_of_sfun mixedz call114 rfl (p114_3 W s) ⟨c4,c3,c2,c1,trivial⟩)
 rw [if_neg h4]
 have c4:=decide_eq_false h4
 by_cases h5:s=sLte
 ·rw [if_pos h5];have c5:=decide_eq_true h5;exact pure_of_mut rfl (mut_of_sfun mixedz call114 rfl (p114_4 W s) ⟨c5,c4,c3,c2,c1,trivial⟩)
 rw [if_neg h5]
 have c5:=decide_eq_false h5
 by_cases h6:s=sIn
 ·rw [if_pos h6];have c6:=decide_eq_true h6;exact pure_of_mut rfl (mut_of_sfun mixedz call114 rfl (p114_5 W s) ⟨c6,c5,c4,c3,c2,c1,trivial⟩)
 rw [if_neg h6]
 have c6:=decide_eq_false h6
 exact pure_of_mut rfl (mut_of_sfun mixedz call114 rfl (p114_6 W s) ⟨c6,c5,c4,c3,c2,c1,trivial⟩)
def encN (x:Nd):AV:=ndA x.1 x.2.1 x.2.2.hd x.2.2.items
theorem encN_clo (x:Nd):(encN x).clo=true:=by simp [encN,ndA,AV.clo,cloL,iA]
theorem cloL_encN:∀ l:List Nd,cloL (l.map encN)=true
 | []=>rfl
 | x::l=>by simp only [List.map_cons,cloL,encN_clo,cloL_encN l,Bool.and_self]
theorem cloL_app2 (a b:List AV) (ha:cloL a=true) (hb:cloL b=true):cloL (a++b)=true:=by rw [cloL_app,ha,hb];rfl
theorem fn_ite {c:Prop} [Decidable c] {a b:AV} (ha:∃ k ys,a=.fn (.func k) [] ys) (hb:∃ k ys,b=.fn (.func k) [] ys):∃ k ys,(if c then a else b)=.fn (.func k) [] ys:=by split<;>assumption
theorem asks_fn (T N:List AV) (nm:List UInt8) (x:JV):∃ k ys,asksA T N nm x=.fn (.func k) [] ys:=by
 unfold asksA
 repeat (refine fn_ite ⟨_,_,rfl⟩ ?_)
 exact ⟨_,_,rfl⟩
section
variable (W:World)
theorem loopC73 (s:List UInt8) (P:List AV) (F:List UInt8×JV->AV) (hF:∀ p,∃ k ys,F p=.fn (.func k) [] ys) (ms:List (List UInt8×JV)) (hl:ms.length<=2 ^ 30):∀ (j i:Nat),ms.length - i=j->i<=ms.length →
 LoopC Tryz.prog W [] (nslots Tryz.prog 73) (loopOf Tryz.prog 73 2) (C73 s P (termsA F ms) ((needT s (ms.take i)).map encN) i) (.exit 5) (E73 ((needT s ms).map encN)):=by
 intro j
 have hTl:(termsA F ms).length=ms.length:=by simp [termsA]
 induction j with
 | zero =>
  intro i hk hle
  have e:i=ms.length:=by omega
  subst e
  rw [List.take_length]
  have hcl:=cloL_encN (needT s ms)
  have hdc:decide (((ms.length:Nat):Int)<((termsA F ms).length:Int))=false:=by rw [hTl];exact decide_eq_false (by omega)
  exact loop_last (by simp) (body_of_sbodyK mixedz (bc_2 W s P (termsA F ms) _ ms.length) Fn1_z2 [] [] Fn1_z1)
 | succ j ih =>
  intro i hk hle
  obtain ⟨p,hp⟩:=getOf (l:=ms) (i:=i) (by omega)
  have hws:IntKind.i64.wrap ((i:Int)+1)=((i+1:Nat):Int):=wrap_succ (by omega)
  have hnx:=ih (i+1) (by omega) (by omega)
  have hst:needT s (ms.take (i+1))=needT s (ms.take i)++(if 0<neededF p.1 then [(s,neededF p.1,p.2)] else []):=by unfold needT;rw [take_snoc hp,List.flatMap_append];simp
  have hb0:=needT_len s (ms.take i)
  simp only [List.length_take] at hb0
  have hc:=mut_of_pure (by rfl) (needed114 W p.1)
  obtain ⟨k,ys,hk2⟩:=hF p
  obtain ⟨nm,v⟩:=p
  obtain ⟨h,l⟩:=v
  have hget:(termsA F ms)[((i:Int)).toNat]?=some (trA nm h l k ys):=by
   rw [Int.toNat_natCast,termsA,List.getElem?_map,hp];simp only [Option.map_some,termA,hk2];rfl
  have hdc:decide ((i:Int)<((termsA F ms).length:Int))=true:=by rw [hTl];exact decide_eq_true (by omega)
  rw [hst] at hnx
  have hcl:=cloL_encN (needT s (ms.take i))
  by_cases hop:0<neededF nm
  ·simp only [if_pos hop,List.map_append,List.map_cons,List.map_nil] at hnx
   have hop2:decide (0<neededF nm)=true:=decide_eq_true hop
   have hcx:cloL [encN (s,neededF nm,.mk h l)]=true:=by simp only [cloL,encN_clo,Bool.and_self]
   have hbl:((needT s (ms.take i)).map encN).length<=2 ^ 30:=by rw [List.length_map];omega
   generalize (needT s (ms.take i)).map encN=acc at hnx hcl hbl ⊢
   have hcl2:=cloL_app2 _ _ hcl hcx
   have hgl:acc.length+[encN (s,neededF nm,.mk h l)].length=(acc++[encN (s,neededF nm,.mk h l)]).length:=by rw [List.length_append]
   have hset:List.take acc.length acc++[encN (s,neededF nm,.mk h l)]=acc++[encN (s,neededF nm,.mk h l)]:=by rw [List.take_length]
   refine loop_next (body_of_sbodyK mixedz (bc_0 W s nm P (termsA F ms) acc i h l k ys (neededF nm)) ?_ [(100001,100004)] [] Fn1_z1) hnx
   exact Fn1_z2
  ·simp only [if_neg hop,List.append_nil] at hnx
   have hop2:decide (0<neededF nm)=false:=decide_eq_false hop
   generalize (needT s (ms.take i)).map encN=acc at hnx hcl ⊢
   exact loop_next (body_of_sbodyK mixedz (bc_1 W s nm P (termsA F ms) acc i h l k ys (neededF nm)) Fn1_z2 [] [] Fn1_z1) hnx
theorem clause73 (s:List UInt8) (P:List AV) (F:List UInt8×JV->AV) (hF:∀ p,∃ k ys,F p=.fn (.func k) [] ys) (ms:List (List UInt8×JV)) (hl:ms.length<=2 ^ 30):Pure Tryz.prog W 73 [clauseA s P (termsA F ms)] (.sl 7 ((needT s ms).map encN) []):=by
 have hlp:=loopC73 W s P F hF ms hl _ 0 rfl (Nat.zero_le _)
 rw [List.take_zero] at hlp
 have hcl:=cloL_encN (needT s ms)
 exact pure_frz1 (mut_of_sfun mixedz call73 rfl (pc_0 W s P (termsA F ms) ((needT s ms).map encN)) Fn1_z2) rfl hcl
end
end Go.Ac

namespace Go.Ac
open Go
def needR:Nat->JV->List Nd
 | 0,_=>[]
 | n+1,q=>q.mems.flatMap fun p=>(if p.1=sAnd then p.2.items.flatMap (needR n) else [])++(if dollarB p.1 then [] else if dollarB (firstS p.2) then needT p.1 p.2.mems else [(p.1,1,p.2)])
def needH (n:Nat) (p:List UInt8×JV):List Nd:=(if p.1=sAnd then p.2.items.flatMap (needR n) else [])++(if dollarB p.1 then [] else if dollarB (firstS p.2) then needT p.1 p.2.mems else [(p.1,1,p.2)])
theorem needR_eq (n:Nat) (q:JV):needR (n+1) q=q.mems.flatMap (needH n):=by rw [needR];rfl
theorem dollar_and:dollarB sAnd=true:=by decide
theorem joins_and:joinsB sAnd=true:=by decide
theorem needRT_len (p:List UInt8×JV):(if dollarB p.1 then [] else if dollarB (firstS p.2) then needT p.1 p.2.mems else [(p.1,1,p.2)]:List Nd).length<=cntV p.2:=by
 have h4:=cntV_eq p.2
 split
 ·simp
 split
 ·have h2:=needT_len p.1 p.2.mems
  have h5:p.2.mems.length<=p.2.names.length:=by unfold JV.mems;simp only [List.length_zip];omega
  have h6:=clauseM_len 1 p.2
  unfold clauseM at h6
  split at h6
  ·simp only at h6;omega
  ·simp only [List.length_singleton] at h6;omega
 ·simp only [List.length_singleton];omega
theorem cntVs_mem:∀ {l:List JV} {x:JV},x ∈ l->cntV x<=cntVs l
 | y::l,x,h=>by
  rw [cntVs]
  rcases List.mem_cons.1 h with rfl|h
  ·omega
  ·have:=cntVs_mem h;omega
theorem needH_le (n:Nat) (hn:∀ q,(needR n q).length<=cntV q) (p:List UInt8×JV):(needH n p).length<=cntV p.2:=by
 have h1:=flat_cnt (needR n) hn p.2.items
 have h2:=needRT_len p
 have h4:=cntV_eq p.2
 unfold needH
 by_cases e:p.1=sAnd
 ·rw [if_pos e,if_pos (by rw [e];exact dollar_and),List.append_nil]
  omega
 ·rw [if_neg e,List.nil_append]
  omega
theorem needR_len:∀ (n:Nat) (q:JV),(needR n q).length<=cntV q
 | 0,q=>by simp [needR]
 | n+1,q=>by
  rw [needR_eq,cntV_eq]
  have:=zip_cnt (needH n) (needH_le n (needR_len n)) q.names q.items
  unfold JV.mems;omega
theorem needH_cnt (n:Nat) (v:JV) (k:Nat):((v.mems.take k).flatMap (needH n)).length<=cntV v:=by
 have h1:=zip_cnt (needH n) (needH_le n (needR_len n)) v.names v.items
 have h2:(v.mems.flatMap (needH n)).length=((v.mems.take k).flatMap (needH n)).length+((v.mems.drop k).flatMap (needH n)).length:=by
  rw [<-List.length_append,<-List.flatMap_append,List.take_append_drop]
 rw [cntV_eq]
 unfold JV.mems at h2 ⊢
 omega
theorem foldQ_all {n:Nat} {q:JV} {d c c':Int} (h:chkQ (n+1) q d c=.ok c') {p:List UInt8×JV} (hp:p ∈ q.mems):(joinsB p.1=true->∀ y ∈ p.2.items,∃ e u u',chkQ n y e u=.ok u')/\(joinsB p.1=false->dollarB p.1=false)/\(joinsB p.1=false->isTestB p.2=true->∃ e u u',chkT n p.2 e u=.ok u'):=by
 refine ⟨fun hj y hy=>?_,fun hj=>?_,fun hj ht=>chk_test h hp hj ht⟩
 ·rw [chkQ] at h
  split at h
  ·cases h
  split at h
  ·cases h
  obtain ⟨u,u',hu⟩:=foldX_all h p hp
  rw [if_pos hj] at hu
  split at hu
  ·cases hu
  obtain ⟨v,v',hv⟩:=foldX_all hu y hy
  exact ⟨_,_,_,hv⟩
 ·rw [chkQ] at h
  split at h
  ·cases h
  split at h
  ·cases h
  obtain ⟨u,u',hu⟩:=foldX_all h p hp
  rw [if_neg (by rw [hj];decide)] at hu
  split at hu
  ·cases hu
  ·rename_i q;simpa using q
theorem flatMap_congr' {α β:Type} {f g:α->List β}:∀ {l:List α},(∀ a ∈ l,f a=g a)->l.flatMap f=l.flatMap g
 | [],_=>rfl
 | a::l,h=>by rw [List.flatMap_cons,List.flatMap_cons,h a (by simp),flatMap_congr' fun b hb=>h b (by simp [hb])]
theorem needR_need:∀ (n:Nat) (q:JV) (d c c':Int),sizeV q<n->chkQ n q d c=.ok c'->needR n q=needF n q
 | 0,q,d,c,c',hs,_=>by omega
 | n+1,q,d,c,c',hs,h=>by
  rw [needR_eq,needF_eq]
  refine flatMap_congr' fun p hp=>?_
  obtain ⟨a1,a2,a3⟩:=foldQ_all h hp
  have hpi:=mem_item (mems_mem hp).2
  unfold needH needG
  by_cases hj:joinsB p.1=true
  ·rw [if_pos (joins_dollar hj),List.append_nil,if_pos hj]
   by_cases e:p.1=sAnd
   ·rw [if_pos e,if_pos e]
    refine flatMap_congr' fun y hy=>?_
    obtain ⟨e2,u,u',hu⟩:=a1 hj y hy
    have:=mem_item hy
    exact needR_need n y e2 u u' (by omega) hu
   ·rw [if_neg e,if_neg e]
  ·have hj':joinsB p.1=false:=by simpa using hj
   have hd:=a2 hj'
   have hna:p.1 ≠ sAnd:=fun e=>hj (by rw [e];exact joins_and)
   rw [if_neg hna,List.nil_append,if_neg (by rw [hd];decide),if_neg hj]
   unfold clauseM
   by_cases ht:isTestB p.2=true
   ·rw [if_pos ht,if_pos (show dollarB (firstS p.2)=true from ht)]
    cases n with
    | zero=>omega
    | succ n=>rfl
   ·rw [if_neg ht,if_neg (show ¬ dollarB (firstS p.2)=true from ht)]
    rfl
end Go.Ac

namespace Go.Ac
open Go Go.Proofs
set_option maxRecDepth 10000
set_option maxHeartbeats 1000000
theorem Fe4_z1 {kp f ph σ σ'} (h:MatchK kp f ph σ σ':=by exact ⟨by rfl,(by simp only [S32,E32,A32,D32,M32,V32,W6,tOK,List.map_cons,List.map_nil,and_true]<;>exact zt),(by simp only [S32,E32,A32,D32,M32,V32,W6,hOK,List.map_cons,List.map_nil,and_true]<;>exact zh),(by simp only [S32,E32,A32,D32,M32,V32,W6,liveT,List.map_cons,List.map_nil,and_true]<;>exact zv),(by simp only [S32,E32,A32,D32,M32,V32,W6,liveH,List.map_cons,List.map_nil,and_true]<;>exact zv)⟩):MatchK kp f ph σ σ':=h
def W6:List AV:=[.str [36,101,113],.str [36,103,116],.str [36,103,116,101],.str [36,108,116],.str [36,108,116,101],.str [36,105,110]]
def S32 (h:JH) (l:List JV) (acc:List AV) (i:Nat):AS:=⟨[(1,.gp 100000 0),(3,.gs 100001 0 acc.length),(4,iA i)],[(100000,.box (encV (.mk h l)) .own),(100001,.arr 58 7 acc .own)]⟩
def E32 (acc:List AV):AS:=⟨[(3,.gs 100001 0 acc.length)],[(100001,.arr 58 7 acc .own)]⟩
def A32 (h:JH) (l:List JV) (acc:List AV) (i:Nat) (s:List UInt8) (h2:JH) (l2:List JV) (k:Nat):AS:=⟨[(1,.gp 100000 0),(3,.gs 100001 0 acc.length),(4,iA i),(5,.str s),(6,.gp 100002 0),(7,iA k)],[(100000,.box (encV (.mk h l)) .own),(100001,.arr 58 7 acc .own),(100002,.box (encV (.mk h2 l2)) .own)]⟩
def D32 (h:JH) (l:List JV) (acc:List AV) (i:Nat) (s:List UInt8) (h2:JH) (l2:List JV):AS:=⟨[(1,.gp 100000 0),(3,.gs 100001 0 acc.length),(4,iA i),(5,.str s),(6,.gp 100002 0)],[(100000,.box (encV (.mk h l)) .own),(100001,.arr 58 7 acc .own),(100002,.box (encV (.mk h2 l2)) .own)]⟩
def M32 (h:JH) (l:List JV) (acc:List AV) (i:Nat) (s:List UInt8) (h2:JH) (l2:List JV) (k:Nat):AS:=⟨[(1,.gp 100000 0),(3,.gs 100001 0 acc.length),(4,iA i),(5,.str s),(6,.gp 100002 0),(8,iA k)],[(100000,.box (encV (.mk h l)) .own),(100001,.arr 58 7 acc .own),(100002,.box (encV (.mk h2 l2)) .own)]⟩
def V32 (h:JH) (l:List JV) (acc:List AV) (i:Nat) (s:List UInt8) (h2:JH) (l2:List JV) (k w:Nat):AS:=⟨[(1,.gp 100000 0),(3,.gs 100001 0 acc.length),(4,iA i),(5,.str s),(6,.gp 100002 0),(8,iA k),(9,.gs 100003 0 6),(10,iA w)],[(100000,.box (encV (.mk h l)) .own),(100001,.arr 58 7 acc .own),(100002,.box (encV (.mk h2 l2)) .own),(100003,.arr 9 1 W6 .own)]⟩
theorem n0d_0 (W:World) (h:JH) (l:List JV) (acc:List AV) (i:Nat) (s:List UInt8) (h2:JH) (l2:List JV) (m:Int) (acc2:List AV):sbodyK Tryz.prog W {lp:=true,tl:=[32,65,69,74]} 32 0 [] [1,3,4] (S32 h l acc i) [Ans.ev 10000000,Ans.call (OutC.ret (iA m) []),Ans.br true,Ans.ev 1,Ans.opt (some (AV.str s)),Ans.ev 1,Ans.opt (some (encV (JV.mk h2 l2))),Ans.ev 10000000,Ans.loopM [] [] (A32 h l acc i s h2 l2 0) (XEnd.exit 2) (D32 h l acc2 i s h2 l2),Ans.ev 10000000,Ans.call (OutC.ret (bA true) []),Ans.ev 10000000]=.ok ((XEnd.normal,{t:=[(1,AV.gp 100000 0),(3,AV.gs 100001 0 acc2.length),(4,iA (IntKind.i64.wrap ((i:Int)+1)))],h:=[(100000,GE.box (encV (JV.mk h l)) St.own),(100001,GE.arr 58 7 acc2 St.own),(100002,GE.box (encV (JV.mk h2 l2)) St.own)]}),[Ans.ev 9999999],[MutC Tryz.prog W 69 [AV.str s] [] (OutC.ret (bA true) []),LoopC Tryz.prog W [] (nslots Tryz.prog 32) (loopOf Tryz.prog 32 1) {t:=[(1,AV.gp 100000 0),(3,AV.gs 100001 0 acc.length),(4,iA (i:Int)),(5,AV.str s),(6,AV.gp 100002 0),(7,iA 0)],h:=[(100000,GE.box (encV (JV.mk h l)) St.own),(100001,GE.arr 58 7 acc St.own),(100002,GE.box (encV (JV.mk h2 l2)) St.own)]} (XEnd.exit 2) {t:=[(1,AV.gp 100000 0),(3,AV.gs 100001 0 acc2.length),(4,iA (i:Int)),(5,AV.str s),(6,AV.gp 100002 0)],h:=[(100000,GE.box (encV (JV.mk h l)) St.own),(100001,GE.arr 58 7 acc2 St.own),(100002,GE.box (encV (JV.mk h2 l2)) St.own)]},MatchK [] [] [] {t:=[(1,AV.gp 100000 0),(3,AV.gs 100001 0 acc.length),(4,iA (i:Int)),(5,AV.str s),(6,AV.gp 100002 0),(7,iA 0)],h:=[(100000,GE.box (encV (JV.mk h l)) St.own),(100001,GE.arr 58 7 acc St.own),(100002,GE.box (encV (JV.mk h2 l2)) St.own)]} {t:=[(1,AV.gp 100000 0),(3,AV.gs 100001 0 acc.length),(4,iA (i:Int)),(5,AV.str s),(6,AV.gp 100002 0),(7,iA 0)],h:=[(100000,GE.box (encV (JV.mk h l)) St.own),(100001,GE.arr 58 7 acc St.own),(100002,GE.box (encV (JV.mk h2 l2)) St.own)]},(encVs l)[(i:Int).toNat]?=some (encV (JV.mk h2 l2)),(List.map AV.str h.names)[(i:Int).toNat]?=some (AV.str s),decide ((i:Int)<m)=true,MutC Tryz.prog W 65 [encV (JV.mk h l)] [] (OutC.ret (iA m) [])]):=kr
theorem n0d_1 (W:World) (h:JH) (l:List JV) (acc:List AV) (i:Nat) (m:Int):sbodyK Tryz.prog W {lp:=true,tl:=[32,65,69,74]} 32 0 [] [1,3,4] (S32 h l acc i) [Ans.ev 10000000,Ans.call (OutC.ret (iA m) []),Ans.br false,Ans.ev 10000000]=.ok ((XEnd.exit 0,{t:=[(1,AV.gp 100000 0),(3,AV.gs 100001 0 acc.length),(4,iA (i:Int))],h:=[(100000,GE.box (encV (JV.mk h l)) St.own),(100001,GE.arr 58 7 acc St.own)]}),[Ans.ev 10000000],[decide ((i:Int)<m)=false,MutC Tryz.prog W 65 [encV (JV.mk h l)] [] (OutC.ret (iA m) [])]):=kr
theorem n0e_0 (W:World) (h:JH) (l:List JV) (acc:List AV) (i:Nat) (s:List UInt8) (h2:JH) (l2:List JV) (m:Int) (acc2:List AV) (f:List UInt8):sbodyK Tryz.prog W {lp:=true,tl:=[32,65,69,74]} 32 0 [] [1,3,4] (S32 h l acc i) [Ans.ev 10000000,Ans.call (OutC.ret (iA m) []),Ans.br true,Ans.ev 1,Ans.opt (some (AV.str s)),Ans.ev 1,Ans.opt (some (encV (JV.mk h2 l2))),Ans.ev 10000000,Ans.loopM [] [] (A32 h l acc i s h2 l2 0) (XEnd.exit 2) (D32 h l acc2 i s h2 l2),Ans.ev 10000000,Ans.call (OutC.ret (bA false) []),Ans.ev 10000000,Ans.call (OutC.ret (AV.str f) []),Ans.ev 10000000,Ans.call (OutC.ret (bA false) []),Ans.ev 2,Ans.lg,Ans.lg,Ans.ev 10000000]=.ok ((XEnd.normal,{t:=[(1,AV.gp 100000 0),(3,AV.gs 100004 0 (acc2.length+[AV.agg [AV.str s,iA 1,iA h2.kind,iA h2.int,AV.str h2.3,AV.sl 1 (List.map AV.str h2.names) [],AV.sl 5 (encVs l2) []]].length)),(4,iA (IntKind.i64.wrap ((i:Int)+1)))],h:=[(100000,GE.box (encV (JV.mk h l)) St.own),(100001,GE.dead),(100002,GE.box (encV (JV.mk h2 l2)) St.own),(100003,GE.arr 58 7 [AV.agg [AV.str s,iA 1,iA h2.kind,iA h2.int,AV.str h2.3,AV.sl 1 (List.map AV.str h2.names) [],AV.sl 5 (encVs l2) []]] St.own),(100004,GE.arr 58 7 (List.take acc2.length acc2++[AV.agg [AV.str s,iA 1,iA h2.kind,iA h2.int,AV.str h2.3,AV.sl 1 (List.map AV.str h2.names) [],AV.sl 5 (encVs l2) []]]) St.own)]}),[Ans.ev 10000000],[(acc2.length+[AV.agg [AV.str s,iA 1,iA h2.kind,iA h2.int,AV.str h2.3,AV.sl 1 (List.map AV.str h2.names) [],AV.sl 5 (encVs l2) []]].length) * 104<=140737488355328,(St.own=St.own\/St.own=St.shr/\acc2.length=acc2.length)/\acc2.length<=acc2.length,MutC Tryz.prog W 69 [AV.str f] [] (OutC.ret (bA false) []),MutC Tryz.prog W 74 [encV (JV.mk h2 l2)] [] (OutC.ret (AV.str f) []),MutC Tryz.prog W 69 [AV.str s] [] (OutC.ret (bA false) []),LoopC Tryz.prog W [] (nslots Tryz.prog 32) (loopOf Tryz.prog 32 1) {t:=[(1,AV.gp 100000 0),(3,AV.gs 100001 0 acc.length),(4,iA (i:Int)),(5,AV.str s),(6,AV.gp 100002 0),(7,iA 0)],h:=[(100000,GE.box (encV (JV.mk h l)) St.own),(100001,GE.arr 58 7 acc St.own),(100002,GE.box (encV (JV.mk h2 l2)) St.own)]} (XEnd.exit 2) {t:=[(1,AV.gp 100000 0),(3,AV.gs 100001 0 acc2.length),(4,iA (i:Int)),(5,AV.str s),(6,AV.gp 100002 0)],h:=[(100000,GE.box (encV (JV.mk h l)) St.own),(100001,GE.arr 58 7 acc2 St.own),(100002,GE.box (encV (JV.mk h2 l2)) St.own)]},MatchK [] [] [] {t:=[(1,AV.gp 100000 0),(3,AV.gs 100001 0 acc.length),(4,iA (i:Int)),(5,AV.str s),(6,AV.gp 100002 0),(7,iA 0)],h:=[(100000,GE.box (encV (JV.mk h l)) St.own),(100001,GE.arr 58 7 acc St.own),(100002,GE.box (encV (JV.mk h2 l2)) St.own)]} {t:=[(1,AV.gp 100000 0),(3,AV.gs 100001 0 acc.length),(4,iA (i:Int)),(5,AV.str s),(6,AV.gp 100002 0),(7,iA 0)],h:=[(100000,GE.box (encV (JV.mk h l)) St.own),(100001,GE.arr 58 7 acc St.own),(100002,GE.box (encV (JV.mk h2 l2)) St.own)]},(encVs l)[(i:Int).toNat]?=some (encV (JV.mk h2 l2)),(List.map AV.str h.names)[(i:Int).toNat]?=some (AV.str s),decide ((i:Int)<m)=true,MutC Tryz.prog W 65 [encV (JV.mk h l)] [] (OutC.ret (iA m) [])]):=kr
theorem n0m_0 (W:World) (h:JH) (l:List JV) (acc:List AV) (i:Nat) (s:List UInt8) (h2:JH) (l2:List JV) (m:Int) (acc2 acc3:List AV) (f:List UInt8):sbodyK Tryz.prog W {lp:=true,tl:=[32,65,69,74]} 32 0 [] [1,3,4] (S32 h l acc i) [Ans.ev 10000000,Ans.call (OutC.ret (iA m) []),Ans.br true,Ans.ev 1,Ans.opt (some (AV.str s)),Ans.ev 1,Ans.opt (some (encV (JV.mk h2 l2))),Ans.ev 10000000,Ans.loopM [] [] (A32 h l acc i s h2 l2 0) (XEnd.exit 2) (D32 h l acc2 i s h2 l2),Ans.ev 10000000,Ans.call (OutC.ret (bA false) []),Ans.ev 10000000,Ans.call (OutC.ret (AV.str f) []),Ans.ev 10000000,Ans.call (OutC.ret (bA true) []),Ans.ev 10000000,Ans.loopM [] [] (M32 h l acc2 i s h2 l2 0) (XEnd.exit 4) (D32 h l acc3 i s h2 l2),Ans.ev 10000000]=.ok ((XEnd.normal,{t:=[(1,AV.gp 100000 0),(3,AV.gs 100001 0 acc3.length),(4,iA (IntKind.i64.wrap ((i:Int)+1)))],h:=[(100000,GE.box (encV (JV.mk h l)) St.own),(100001,GE.arr 58 7 acc3 St.own),(100002,GE.box (encV (JV.mk h2 l2)) St.own)]}),[Ans.ev 10000000],[LoopC Tryz.prog W [] (nslots Tryz.prog 32) (loopOf Tryz.prog 32 2) {t:=[(1,AV.gp 100000 0),(3,AV.gs 100001 0 acc2.length),(4,iA (i:Int)),(5,AV.str s),(6,AV.gp 100002 0),(8,iA 0)],h:=[(100000,GE.box (encV (JV.mk h l)) St.own),(100001,GE.arr 58 7 acc2 St.own),(100002,GE.box (encV (JV.mk h2 l2)) St.own)]} (XEnd.exit 4) {t:=[(1,AV.gp 100000 0),(3,AV.gs 100001 0 acc3.length),(4,iA (i:Int)),(5,AV.str s),(6,AV.gp 100002 0)],h:=[(100000,GE.box (encV (JV.mk h l)) St.own),(100001,GE.arr 58 7 acc3 St.own),(100002,GE.box (encV (JV.mk h2 l2)) St.own)]},MatchK [] [] [] {t:=[(1,AV.gp 100000 0),(3,AV.gs 100001 0 acc2.length),(4,iA (i:Int)),(5,AV.str s),(6,AV.gp 100002 0),(8,iA 0)],h:=[(100000,GE.box (encV (JV.mk h l)) St.own),(100001,GE.arr 58 7 acc2 St.own),(100002,GE.box (encV (JV.mk h2 l2)) St.own)]} {t:=[(1,AV.gp 100000 0),(3,AV.gs 100001 0 acc2.length),(4,iA (i:Int)),(5,AV.str s),(6,AV.gp 100002 0),(8,iA 0)],h:=[(100000,GE.box (encV (JV.mk h l)) St.own),(100001,GE.arr 58 7 acc2 St.own),(100002,GE.box (encV (JV.mk h2 l2)) St.own)]},MutC Tryz.prog W 69 [AV.str f] [] (OutC.ret (bA true) []),MutC Tryz.prog W 74 [encV (JV.mk h2 l2)] [] (OutC.ret (AV.str f) []),MutC Tryz.prog W 69 [AV.str s] [] (OutC.ret (bA false) []),LoopC Tryz.prog W [] (nslots Tryz.prog 32) (loopOf Tryz.prog 32 1) {t:=[(1,AV.gp 100000 0),(3,AV.gs 100001 0 acc.length),(4,iA (i:Int)),(5,AV.str s),(6,AV.gp 100002 0),(7,iA 0)],h:=[(100000,GE.box (encV (JV.mk h l)) St.own),(100001,GE.arr 58 7 acc St.own),(100002,GE.box (encV (JV.mk h2 l2)) St.own)]} (XEnd.exit 2) {t:=[(1,AV.gp 100000 0),(3,AV.gs 100001 0 acc2.length),(4,iA (i:Int)),(5,AV.str s),(6,AV.gp 100002 0)],h:=[(100000,GE.box (encV (JV.mk h l)) St.own),(100001,GE.arr 58 7 acc2 St.own),(100002,GE.box (encV (JV.mk h2 l2)) St.own)]},MatchK [] [] [] {t:=[(1,AV.gp 100000 0),(3,AV.gs 100001 0 acc.length),(4,iA (i:Int)),(5,AV.str s),(6,AV.gp 100002 0),(7,iA 0)],h:=[(100000,GE.box (encV (JV.mk h l)) St.own),(100001,GE.arr 58 7 acc St.own),(100002,GE.box (encV (JV.mk h2 l2)) St.own)]} {t:=[(1,AV.gp 100000 0),(3,AV.gs 100001 0 acc.length),(4,iA (i:Int)),(5,AV.str s),(6,AV.gp 100002 0),(7,iA 0)],h:=[(100000,GE.box (encV (JV.mk h l)) St.own),(100001,GE.arr 58 7 acc St.own),(100002,GE.box (encV (JV.mk h2 l2)) St.own)]},(encVs l)[(i:Int).toNat]?=some (encV (JV.mk h2 l2)),(List.map AV.str h.names)[(i:Int).toNat]?=some (AV.str s),decide ((i:Int)<m)=true,MutC Tryz.prog W 65 [encV (JV.mk h l)] [] (OutC.ret (iA m) [])]):=kr
theorem n1_0 (W:World) (h:JH) (l:List JV) (acc:List AV) (i:Nat) (s:List UInt8) (h2:JH) (l2:List JV) (k:Nat) (r:List AV) (h3:JH) (l3:List JV):sbodyK Tryz.prog W {lp:=true,tl:=[32,65,69,74]} 32 1 [] [1,3,4,5,6,7] (A32 h l acc i s h2 l2 k) [Ans.br true,Ans.br true,Ans.br true,Ans.br true,Ans.br true,Ans.br true,Ans.br true,Ans.ev 1,Ans.opt (some (encV (JV.mk h3 l3))),Ans.ev 10000000,Ans.call (OutC.ret (AV.sl 7 r []) []),Ans.ev 1,Ans.lg,Ans.lg,Ans.ev 10000000]=.ok ((XEnd.normal,{t:=[(1,AV.gp 100000 0),(3,AV.gs 100003 0 (acc.length+r.length)),(4,iA (i:Int)),(5,AV.str s),(6,AV.gp 100002 0),(7,iA (IntKind.i64.wrap ((k:Int)+1)))],h:=[(100000,GE.box (encV (JV.mk h l)) St.own),(100001,GE.dead),(100002,GE.box (encV (JV.mk h2 l2)) St.own),(100003,GE.arr 58 7 (List.take acc.length acc++r) St.own)]}),[Ans.ev 10000000],[(acc.length+r.length) * 104<=140737488355328,(St.own=St.own\/St.own=St.shr/\acc.length=acc.length)/\acc.length<=acc.length,MutC Tryz.prog W 32 [encV (JV.mk h3 l3)] [] (OutC.ret (AV.sl 7 r []) []),(encVs l2)[(k:Int).toNat]?=some (encV (JV.mk h3 l3)),decide ((k:Int)<(↑(encVs l2).length:Int))=true,decide (s=[36,97,110,100])=true,decide (s=[36,97,110,100])=true,decide (s=[36,97,110,100])=true,decide (s=[36,97,110,100])=true,decide (s=[36,97,110,100])=true,decide (s=[36,97,110,100])=true]):=kr
theorem n1_1 (W:World) (h:JH) (l:List JV) (acc:List AV) (i:Nat) (s:List UInt8) (h2:JH) (l2:List JV) (k:Nat):sbodyK Tryz.prog W {lp:=true,tl:=[32,65,69,74]} 32 1 [] [1,3,4,5,6,7] (A32 h l acc i s h2 l2 k) [Ans.br true,Ans.br true,Ans.br true,Ans.br true,Ans.br true,Ans.br true,Ans.br false,Ans.ev 10000000]=.ok ((XEnd.exit 2,{t:=[(1,AV.gp 100000 0),(3,AV.gs 100001 0 acc.length),(4,iA (i:Int)),(5,AV.str s),(6,AV.gp 100002 0),(7,iA (k:Int))],h:=[(100000,GE.box (encV (JV.mk h l)) St.own),(100001,GE.arr 58 7 acc St.own),(100002,GE.box (encV (JV.mk h2 l2)) St.own)]}),[Ans.ev 10000000],[decide ((k:Int)<(↑(encVs l2).length:Int))=false,decide (s=[36,97,110,100])=true,decide (s=[36,97,110,100])=true,decide (s=[36,97,110,100])=true,decide (s=[36,97,110,100])=true,decide (s=[36,97,110,100])=true,decide (s=[36,97,110,100])=true]):=kr
theorem n1_2 (W:World) (h:JH) (l:List JV) (acc:List AV) (i:Nat) (s:List UInt8) (h2:JH) (l2:List JV) (k:Nat):sbodyK Tryz.prog W {lp:=true,tl:=[32,65,69,74]} 32 1 [] [1,3,4,5,6,7] (A32 h l acc i s h2 l2 k) [Ans.br false,Ans.br false,Ans.br false,Ans.br false,Ans.br false,Ans.br false,Ans.ev 10000000]=.ok ((XEnd.exit 2,{t:=[(1,AV.gp 100000 0),(3,AV.gs 100001 0 acc.length),(4,iA (i:Int)),(5,AV.str s),(6,AV.gp 100002 0),(7,iA (k:Int))],h:=[(100000,GE.box (encV (JV.mk h l)) St.own),(100001,GE.arr 58 7 acc St.own),(100002,GE.box (encV (JV.mk h2 l2)) St.own)]}),[Ans.ev 9999999],[decide (s=[36,97,110,100])=false,decide (s=[36,97,110,100])=false,decide (s=[36,97,110,100])=false,decide (s=[36,97,110,100])=false,decide (s=[36,97,110,100])=false,decide (s=[36,97,110,100])=false]):=kr
theorem n2_0 (W:World) (h:JH) (l:List JV) (acc:List AV) (i:Nat) (s:List UInt8) (h2:JH) (l2:List JV) (k:Nat) (m:Int) (acc2:List AV):sbodyK Tryz.prog W {lp:=true,tl:=[32,65,69,74]} 32 2 [] [1,3,4,5,6,8] (M32 h l acc i s h2 l2 k) [Ans.ev 10000000,Ans.call (OutC.ret (iA m) []),Ans.br true,Ans.ev 10000000,Ans.loopM [] [] (V32 h l acc i s h2 l2 k 0) (XEnd.exit 6) (M32 h l acc2 i s h2 l2 k),Ans.ev 10000000]=.ok ((XEnd.normal,{t:=[(1,AV.gp 100000 0),(3,AV.gs 100001 0 acc2.length),(4,iA (i:Int)),(5,AV.str s),(6,AV.gp 100002 0),(8,iA (IntKind.i64.wrap ((k:Int)+1)))],h:=[(100000,GE.box (encV (JV.mk h l)) St.own),(100001,GE.arr 58 7 acc2 St.own),(100002,GE.box (encV (JV.mk h2 l2)) St.own)]}),[Ans.ev 10000000],[LoopC Tryz.prog W [] (nslots Tryz.prog 32) (loopOf Tryz.prog 32 3) {t:=[(1,AV.gp 100000 0),(3,AV.gs 100001 0 acc.length),(4,iA (i:Int)),(5,AV.str s),(6,AV.gp 100002 0),(8,iA (k:Int)),(9,AV.gs 100003 0 6),(10,iA 0)],h:=[(100000,GE.box (encV (JV.mk h l)) St.own),(100001,GE.arr 58 7 acc St.own),(100002,GE.box (encV (JV.mk h2 l2)) St.own),(100003,GE.arr 9 1 [AV.str [36,101,113],AV.str [36,103,116],AV.str [36,103,116,101],AV.str [36,108,116],AV.str [36,108,116,101],AV.str [36,105,110]] St.own)]} (XEnd.exit 6) {t:=[(1,AV.gp 100000 0),(3,AV.gs 100001 0 acc2.length),(4,iA (i:Int)),(5,AV.str s),(6,AV.gp 100002 0),(8,iA (k:Int))],h:=[(100000,GE.box (encV (JV.mk h l)) St.own),(100001,GE.arr 58 7 acc2 St.own),(100002,GE.box (encV (JV.mk h2 l2)) St.own)]},MatchK [] [] [] {t:=[(1,AV.gp 100000 0),(3,AV.gs 100001 0 acc.length),(4,iA (i:Int)),(5,AV.str s),(6,AV.gp 100002 0),(8,iA (k:Int)),(9,AV.gs 100003 0 6),(10,iA 0)],h:=[(100000,GE.box (encV (JV.mk h l)) St.own),(100001,GE.arr 58 7 acc St.own),(100002,GE.box (encV (JV.mk h2 l2)) St.own),(100003,GE.arr 9 1 [AV.str [36,101,113],AV.str [36,103,116],AV.str [36,103,116,101],AV.str [36,108,116],AV.str [36,108,116,101],AV.str [36,105,110]] St.own)]} {t:=[(1,AV.gp 100000 0),(3,AV.gs 100001 0 acc.length),(4,iA (i:Int)),(5,AV.str s),(6,AV.gp 100002 0),(8,iA (k:Int)),(9,AV.gs 100003 0 6),(10,iA 0)],h:=[(100000,GE.box (encV (JV.mk h l)) St.own),(100001,GE.arr 58 7 acc St.own),(100002,GE.box (encV (JV.mk h2 l2)) St.own),(100003,GE.arr 9 1 [AV.str [36,101,113],AV.str [36,103,116],AV.str [36,103,116,101],AV.str [36,108,116],AV.str [36,108,116,101],AV.str [36,105,110]] St.own)]},decide ((k:Int)<m)=true,MutC Tryz.prog W 65 [encV (JV.mk h2 l2)] [] (OutC.ret (iA m) [])]):=kr
theorem n2_1 (W:World) (h:JH) (l:List JV) (acc:List AV) (i:Nat) (s:List UInt8) (h2:JH) (l2:List JV) (k:Nat) (m:Int):sbodyK Tryz.prog W {lp:=true,tl:=[32,65,69,74]} 32 2 [] [1,3,4,5,6,8] (M32 h l acc i s h2 l2 k) [Ans.ev 10000000,Ans.call (OutC.ret (iA m) []),Ans.br false,Ans.ev 10000000]=.ok ((XEnd.exit 4,{t:=[(1,AV.gp 100000 0),(3,AV.gs 100001 0 acc.length),(4,iA (i:Int)),(5,AV.str s),(6,AV.gp 100002 0),(8,iA (k:Int))],h:=[(100000,GE.box (encV (JV.mk h l)) St.own),(100001,GE.arr 58 7 acc St.own),(100002,GE.box (encV (JV.mk h2 l2)) St.own)]}),[Ans.ev 10000000],[decide ((k:Int)<m)=false,MutC Tryz.prog W 65 [encV (JV.mk h2 l2)] [] (OutC.ret (iA m) [])]):=kr
theorem n3_0 (W:World) (h:JH) (l:List JV) (acc:List AV) (i:Nat) (s:List UInt8) (h2:JH) (l2:List JV) (k w:Nat) (s2 wd:List UInt8) (h3:JH) (l3:List JV):sbodyK Tryz.prog W {lp:=true,tl:=[32,65,69,74]} 32 3 [] [1,3,4,5,6,8,9,10] (V32 h l acc i s h2 l2 k w) [Ans.br true,Ans.lg,Ans.opt (some (AV.str wd)),Ans.ev 1,Ans.opt (some (AV.str s2)),Ans.br true,Ans.ev 1,Ans.opt (some (encV (JV.mk h3 l3))),Ans.ev 1,Ans.lg,Ans.lg,Ans.ev 10000000]=.ok ((XEnd.normal,{t:=[(1,AV.gp 100000 0),(3,AV.gs 100005 0 (acc.length+[AV.agg [AV.str s,iA (IntKind.i64.wrap ((w:Int)+1)),iA h3.kind,iA h3.int,AV.str h3.3,AV.sl 1 (List.map AV.str h3.names) [],AV.sl 5 (encVs l3) []]].length)),(4,iA (i:Int)),(5,AV.str s),(6,AV.gp 100002 0),(8,iA (k:Int)),(9,AV.gs 100003 0 6),(10,iA (IntKind.i64.wrap ((w:Int)+1)))],h:=[(100000,GE.box (encV (JV.mk h l)) St.own),(100001,GE.dead),(100002,GE.box (encV (JV.mk h2 l2)) St.own),(100003,GE.arr 9 1 [AV.str [36,101,113],AV.str [36,103,116],AV.str [36,103,116,101],AV.str [36,108,116],AV.str [36,108,116,101],AV.str [36,105,110]] St.own),(100004,GE.arr 58 7 [AV.agg [AV.str s,iA (IntKind.i64.wrap ((w:Int)+1)),iA h3.kind,iA h3.int,AV.str h3.3,AV.sl 1 (List.map AV.str h3.names) [],AV.sl 5 (encVs l3) []]] St.own),(100005,GE.arr 58 7 (List.take acc.length acc++[AV.agg [AV.str s,iA (IntKind.i64.wrap ((w:Int)+1)),iA h3.kind,iA h3.int,AV.str h3.3,AV.sl 1 (List.map AV.str h3.names) [],AV.sl 5 (encVs l3) []]]) St.own)]}),[Ans.ev 10000000],[(acc.length+[AV.agg [AV.str s,iA (IntKind.i64.wrap ((w:Int)+1)),iA h3.kind,iA h3.int,AV.str h3.3,AV.sl 1 (List.map AV.str h3.names) [],AV.sl 5 (encVs l3) []]].length) * 104<=140737488355328,(St.own=St.own\/St.own=St.shr/\acc.length=acc.length)/\acc.length<=acc.length,(encVs l2)[(k:Int).toNat]?=some (encV (JV.mk h3 l3)),decide (wd=s2)=true,(List.map AV.str h2.names)[(k:Int).toNat]?=some (AV.str s2),W6[0+(w:Int).toNat]?=some (AV.str wd),0<=(w:Int)/\(w:Int)<6,decide ((w:Int)<6)=true]):=kr
theorem n3_1 (W:World) (h:JH) (l:List JV) (acc:List AV) (i:Nat) (s:List UInt8) (h2:JH) (l2:List JV) (k w:Nat) (s2 wd:List UInt8):sbodyK Tryz.prog W {lp:=true,tl:=[32,65,69,74]} 32 3 [] [1,3,4,5,6,8,9,10] (V32 h l acc i s h2 l2 k w) [Ans.br true,Ans.lg,Ans.opt (some (AV.str wd)),Ans.ev 1,Ans.opt (some (AV.str s2)),Ans.br false,Ans.ev 10000000]=.ok ((XEnd.normal,{t:=[(1,AV.gp 100000 0),(3,AV.gs 100001 0 acc.length),(4,iA (i:Int)),(5,AV.str s),(6,AV.gp 100002 0),(8,iA (k:Int)),(9,AV.gs 100003 0 6),(10,iA (IntKind.i64.wrap ((w:Int)+1)))],h:=[(100000,GE.box (encV (JV.mk h l)) St.own),(100001,GE.arr 58 7 acc St.own),(100002,GE.box (encV (JV.mk h2 l2)) St.own),(100003,GE.arr 9 1 [AV.str [36,101,113],AV.str [36,103,116],AV.str [36,103,116,101],AV.str [36,108,116],AV.str [36,108,116,101],AV.str [36,105,110]] St.own)]}),[Ans.ev 10000000],[decide (wd=s2)=false,(List.map AV.str h2.names)[(k:Int).toNat]?=some (AV.str s2),W6[0+(w:Int).toNat]?=some (AV.str wd),0<=(w:Int)/\(w:Int)<6,decide ((w:Int)<6)=true]):=kr
theorem n3_2 (W:World) (h:JH) (l:List JV) (acc:List AV) (i:Nat) (s:List UInt8) (h2:JH) (l2:List JV) (k w:Nat):sbodyK Tryz.prog W {lp:=true,tl:=[32,65,69,74]} 32 3 [] [1,3,4,5,6,8,9,10] (V32 h l acc i s h2 l2 k w) [Ans.br false,Ans.ev 10000000]=.ok ((XEnd.exit 6,{t:=[(1,AV.gp 100000 0),(3,AV.gs 100001 0 acc.length),(4,iA (i:Int)),(5,AV.str s),(6,AV.gp 100002 0),(8,iA (k:Int)),(9,AV.gs 100003 0 6),(10,iA (w:Int))],h:=[(100000,GE.box (encV (JV.mk h l)) St.own),(100001,GE.arr 58 7 acc St.own),(100002,GE.box (encV (JV.mk h2 l2)) St.own),(100003,GE.arr 9 1 [AV.str [36,101,113],AV.str [36,103,116],AV.str [36,103,116,101],AV.str [36,108,116],AV.str [36,108,116,101],AV.str [36,105,110]] St.own)]}),[Ans.ev 10000000],[decide ((w:Int)<6)=false]):=kr
theorem p32_0 (W:World) (h:JH) (l:List JV) (acc:List AV):sfun Tryz.prog W {lp:=true,fin:=9} 1000 9 32 [encV (.mk h l)] [] 100000 [Ans.ev 10000000,Ans.loopM [] [(100001,7)] (S32 h l [] 0) (XEnd.exit 0) (E32 acc),Ans.ev 10000000,Ans.fin [] [] (AV.gs 100001 0 acc.length) [(100001,GE.arr 58 7 acc St.own)],Ans.ev 10000000] []=.ok (OutC.ret (AV.gs 100001 0 acc.length) [(100001,GE.arr 58 7 acc St.own)],[Ans.ev 10000000],[MatchK [] [] [] {t:=[(0,AV.gs 100001 0 acc.length)],h:=[(100001,GE.arr 58 7 acc St.own)]} {t:=[(0,AV.gs 100001 0 acc.length)],h:=[(100001,GE.arr 58 7 acc St.own)]},LoopC Tryz.prog W [] (nslots Tryz.prog 32) (loopOf Tryz.prog 32 0) {t:=[(1,AV.gp 100000 0),(3,AV.gs 100001 0 0),(4,iA 0)],h:=[(100000,GE.box (encV (JV.mk h l)) St.own),(100001,GE.arr 58 7 [] St.own)]} (XEnd.exit 0) {t:=[(3,AV.gs 100001 0 acc.length)],h:=[(100001,GE.arr 58 7 acc St.own)]},MatchK [] [] [(100001,7)] {t:=[(1,AV.gp 100000 0),(3,AV.val (Value.slice none 0 0)),(4,iA 0)],h:=[(100000,GE.box (encV (JV.mk h l)) St.own)]} {t:=[(1,AV.gp 100000 0),(3,AV.gs 100001 0 0),(4,iA 0)],h:=[(100000,GE.box (encV (JV.mk h l)) St.own),(100001,GE.arr 58 7 [] St.own)]}]):=kr
theorem Fe4_m1 {kp f ph σ σ'} (h:MatchK kp f ph σ σ':=by exact Fe4_z1):MatchK kp f ph σ σ':=h
theorem Fe4_m4 {cs} (h:Holds cs:=by simp only [Holds,and_true]<;>and_intros<;>first|assumption|exact zd|exact Fe4_m1|exact ⟨by omega,by omega⟩|(simp only [List.length_cons,List.length_nil];omega)):Holds cs:=h
theorem call32:callable Tryz.prog 32=true:=kr
def W6l:List (List UInt8):=[sEq,sGt,sGte,sLt,sLte,sIn]
def wp (s s2:List UInt8) (v:JV):Nat->List Nd
 | 0=>[]
 | w+1=>wp s s2 v w++(match W6l[w]? with|some u=>if u=s2 then [(s,((w+1:Nat):Int),v)] else []|none=>[])
theorem wp_6 (s s2:List UInt8) (v:JV):wp s s2 v 6=needT s [(s2,v)]:=by
 unfold needT neededF
 simp only [List.flatMap_cons,List.flatMap_nil,List.append_nil]
 by_cases e1:s2=sEq
 ·subst e1;rfl
 by_cases e2:s2=sGt
 ·subst e2;rfl
 by_cases e3:s2=sGte
 ·subst e3;rfl
 by_cases e4:s2=sLt
 ·subst e4;rfl
 by_cases e5:s2=sLte
 ·subst e5;rfl
 by_cases e6:s2=sIn
 ·subst e6;rfl
 rw [if_neg e1,if_neg e2,if_neg e3,if_neg e4,if_neg e5,if_neg e6]
 simp only [wp,W6l,List.getElem?_cons_zero,List.getElem?_cons_succ,if_neg (Ne.symm e1),if_neg (Ne.symm e2),if_neg (Ne.symm e3),if_neg (Ne.symm e4),if_neg (Ne.symm e5),if_neg (Ne.symm e6),List.append_nil]
 rfl
theorem wp_len (s s2:List UInt8) (v:JV):∀ w,(wp s s2 v w).length<=w
 | 0=>by simp [wp]
 | w+1=>by
  have:=wp_len s s2 v w
  simp only [wp,List.length_append]
  split
  ·split
   ·simp only [List.length_singleton];omega
   ·simp only [List.length_nil];omega
  ·simp only [List.length_nil];omega
theorem needT_snoc {s:List UInt8} {ms:List (List UInt8×JV)} {k:Nat} {p:List UInt8×JV} (hp:ms[k]?=some p):needT s (ms.take (k+1))=needT s (ms.take k)++needT s [p]:=by
 unfold needT;rw [take_snoc hp,List.flatMap_append]
section
variable (W:World) (h:JH) (l:List JV)
theorem words32 (acc:List AV) (i:Nat) (s:List UInt8) (h2:JH) (l2:List JV) (k:Nat) (s2:List UInt8) (v:JV) (hx:h2.names[k]?=some s2) (hv:l2[k]?=some v) (hl:acc.length<=2 ^ 34) (hcl0:cloL acc=true) :
 LoopC Tryz.prog W [] (nslots Tryz.prog 32) (loopOf Tryz.prog 32 3) (V32 h l acc i s h2 l2 k 0) (.exit 6) (M32 h l (acc++(needT s [(s2,v)]).map encN) i s h2 l2 k):=by
 have key:∀ w,w<=6->LoopC Tryz.prog W [] (nslots Tryz.prog 32) (loopOf Tryz.prog 32 3) (V32 h l (acc++(wp s s2 v w).map encN) i s h2 l2 k w) (.exit 6) (M32 h l (acc++(needT s [(s2,v)]).map encN) i s h2 l2 k):=by
  refine loopC_inv (fun w=>V32 h l (acc++(wp s s2 v w).map encN) i s h2 l2 k w) (fun w=>w<=6) (fun w=>6 - w) (by simp) ?_
  intro w hw
  have hget:(List.map AV.str h2.names)[((k:Int)).toNat]?=some (AV.str s2):=by rw [Int.toNat_natCast];exact strs_get hx
  have hget2:(encVs l2)[((k:Int)).toNat]?=some (encV v):=by rw [Int.toNat_natCast];exact encVs_get hv
  have hwl:=wp_len s s2 v w
  have hcl1:=cloL_encN (wp s s2 v w)
  by_cases h6:w=6
  ·right
   subst h6
   rw [wp_6] at hcl1 ⊢
   have hb1:decide (((6:Nat):Int)<6)=false:=by decide
   have hcl:cloL (acc++(needT s [(s2,v)]).map encN)=true:=by rw [clo_append,hcl0,hcl1];rfl
   generalize acc++(needT s [(s2,v)]).map encN=acc1 at hcl
   exact body_of_sbodyK mixedz (n3_2 W h l acc1 i s h2 l2 k 6) Fe4_m4 [] [] Fe4_m1
  ·left
   refine ⟨w+1,by omega,by omega,?_⟩
   have hws:IntKind.i64.wrap ((w:Int)+1)=((w+1:Nat):Int):=wrap_succ (by omega)
   have hb1:decide ((w:Int)<6)=true:=decide_eq_true (by omega)
   obtain ⟨wd,hwd⟩:=getOf (l:=W6l) (i:=w) (by have:W6l.length=6:=rfl;omega)
   have hW:W6[0+((w:Int)).toNat]?=some (AV.str wd):=by
    rw [Nat.zero_add,Int.toNat_natCast,show W6=W6l.map AV.str from rfl,List.getElem?_map,hwd];rfl
   have hcl2:cloL (acc++(wp s s2 v w).map encN)=true:=by rw [clo_append,hcl0,hcl1];rfl
   have hl2:(acc++(wp s s2 v w).map encN).length<=2 ^ 35:=by rw [List.length_append,List.length_map];omega
   by_cases e:wd=s2
   ·have hb2:decide (wd=s2)=true:=decide_eq_true e
    have hstep:acc++(wp s s2 v (w+1)).map encN=(acc++(wp s s2 v w).map encN)++[encN (s,((w+1:Nat):Int),v)]:=by
     simp only [wp,hwd,if_pos e,List.map_append,List.map_cons,List.map_nil,List.append_assoc]
    try simp only
    rw [hstep]
    generalize acc++(wp s s2 v w).map encN=acc1 at hcl2 hl2
    obtain ⟨h3,l3⟩:=v
    have hcl:cloL (acc1++[encN (s,((w+1:Nat):Int),JV.mk h3 l3)])=true:=by rw [clo_append,hcl2,show cloL [encN (s,((w+1:Nat):Int),JV.mk h3 l3)]=true from cloL_encN [(s,((w+1:Nat):Int),JV.mk h3 l3)]];rfl
    have e3:encN (s,((w+1:Nat):Int),JV.mk h3 l3)=.agg [.str s,iA (IntKind.i64.wrap ((w:Int)+1)),iA h3.kind,iA h3.int,.str h3.text,.sl 1 (h3.names.map .str) [],.sl 5 (encVs l3) []]:=by rw [hws];rfl
    rw [e3] at hcl ⊢
    exact body_of_sbodyK mixedz (n3_0 W h l acc1 i s h2 l2 k w s2 wd h3 l3) Fe4_m4 [(100001,100005)] [] Fe4_m1
   ·have hb2:decide (wd=s2)=false:=decide_eq_false e
    have hstep:acc++(wp s s2 v (w+1)).map encN=acc++(wp s s2 v w).map encN:=by
     simp only [wp,hwd,if_neg e,List.append_nil]
    try simp only
    rw [hstep]
    generalize acc++(wp s s2 v w).map encN=acc1 at hcl2 hl2
    have hcl:=hcl2
    exact body_of_sbodyK mixedz (n3_1 W h l acc1 i s h2 l2 k w s2 wd) Fe4_m4 [] [] Fe4_m1
 have:=key 0 (by omega)
 simp only [wp,List.map_nil,List.append_nil] at this
 exact this
theorem mem32 (acc:List AV) (i:Nat) (s:List UInt8) (h2:JH) (l2:List JV) (hl:acc.length+(JV.mk h2 l2).mems.length<=2 ^ 33) (hcl0:cloL acc=true) :
 LoopC Tryz.prog W [] (nslots Tryz.prog 32) (loopOf Tryz.prog 32 2) (M32 h l acc i s h2 l2 0) (.exit 4) (D32 h l (acc++(needT s (JV.mk h2 l2).mems).map encN) i s h2 l2):=by
 have hml:=JV.mems_len (.mk h2 l2)
 have hln:=mems_ln (.mk h2 l2)
 have hc:=mut_of_pure (by simp only [cloL,encV_clo,Bool.and_self]) (members65 W (.mk h2 l2))
 have key:∀ k,k<=(JV.mk h2 l2).mems.length->LoopC Tryz.prog W [] (nslots Tryz.prog 32) (loopOf Tryz.prog 32 2) (M32 h l (acc++(needT s ((JV.mk h2 l2).mems.take k)).map encN) i s h2 l2 k) (.exit 4) (D32 h l (acc++(needT s (JV.mk h2 l2).mems).map encN) i s h2 l2):=by
  refine loopC_inv (fun k=>M32 h l (acc++(needT s ((JV.mk h2 l2).mems.take k)).map encN) i s h2 l2 k) (fun k=>k<=(JV.mk h2 l2).mems.length) (fun k=>(JV.mk h2 l2).mems.length - k) (by simp) ?_
  intro k hk
  have hnl:=needT_len s ((JV.mk h2 l2).mems.take k)
  have hcl1:=cloL_encN (needT s ((JV.mk h2 l2).mems.take k))
  have hcl2:cloL (acc++(needT s ((JV.mk h2 l2).mems.take k)).map encN)=true:=by rw [clo_append,hcl0,hcl1];rfl
  by_cases hi:k<(JV.mk h2 l2).mems.length
  ·left
   obtain ⟨p,hp⟩:=getOf hi
   obtain ⟨s2,v⟩:=p
   obtain ⟨hx,hv⟩:=(List.getElem?_zip_eq_some (l₁:=h2.names) (l₂:=l2) (i:=k)).1 hp
   refine ⟨k+1,by omega,by omega,?_⟩
   have hws:IntKind.i64.wrap ((k:Int)+1)=((k+1:Nat):Int):=wrap_succ (by omega)
   have hb1:decide ((k:Int)<(((JV.mk h2 l2).mem:Nat):Int))=true:=decide_eq_true (by omega)
   try simp only
   rw [needT_snoc hp,List.map_append,<-List.append_assoc]
   have hl2:(acc++(needT s ((JV.mk h2 l2).mems.take k)).map encN).length<=2 ^ 34:=by
    rw [List.length_append,List.length_map]
    rw [List.length_take] at hnl
    omega
   generalize acc++(needT s ((JV.mk h2 l2).mems.take k)).map encN=acc1 at hcl2 hl2
   have hlp:=words32 W h l acc1 i s h2 l2 k s2 v hx hv hl2 hcl2
   have hcl:cloL (acc1++(needT s [(s2,v)]).map encN)=true:=by rw [clo_append,hcl2,cloL_encN];rfl
   exact body_of_sbodyK mixedz (n2_0 W h l acc1 i s h2 l2 k (((JV.mk h2 l2).mem:Nat):Int) (acc1++(needT s [(s2,v)]).map encN)) Fe4_m4 [] [] Fe4_m1
  ·right
   have hil:k=(JV.mk h2 l2).mems.length:=by omega
   subst hil
   rw [List.take_length] at hcl2 ⊢
   have hb1:decide (((JV.mk h2 l2).mems.length:Int)<(((JV.mk h2 l2).mem:Nat):Int))=false:=decide_eq_false (by omega)
   have hcl:=hcl2
   generalize acc++(needT s (JV.mk h2 l2).mems).map encN=acc1 at hcl hcl2
   exact body_of_sbodyK mixedz (n2_1 W h l acc1 i s h2 l2 ((JV.mk h2 l2).mems.length) (((JV.mk h2 l2).mem:Nat):Int)) Fe4_m4 [] [] Fe4_m1
 have:=key 0 (by omega)
 simp only [List.take_zero,needT,List.flatMap_nil,List.map_nil,List.append_nil] at this
 exact this
theorem and32 (n:Nat) (hN:∀ y:JV,sizeV y<n->cntV y<=2 ^ 30->Pure Tryz.prog W 32 [encV y] (.sl 7 ((needR n y).map encN) [])) (acc:List AV) (i:Nat) (s:List UInt8) (h2:JH) (l2:List JV) (hz:∀ y ∈ l2,sizeV y<n) (hc:cntVs l2<=2 ^ 30) (hl:acc.length<=2 ^ 31) (hcl0:cloL acc=true) :
 LoopC Tryz.prog W [] (nslots Tryz.prog 32) (loopOf Tryz.prog 32 1) (A32 h l acc i s h2 l2 0) (.exit 2) (D32 h l (acc++((if s=sAnd then l2.flatMap (needR n) else []):List Nd).map encN) i s h2 l2):=by
 by_cases es:s=sAnd
 ·rw [if_pos es]
  have hb0:decide (s=[36,97,110,100])=true:=decide_eq_true es
  have hcl0n:=cntVs_len l2
  have key:∀ k,k<=l2.length->LoopC Tryz.prog W [] (nslots Tryz.prog 32) (loopOf Tryz.prog 32 1) (A32 h l (acc++((l2.take k).flatMap (needR n)).map encN) i s h2 l2 k) (.exit 2) (D32 h l (acc++(l2.flatMap (needR n)).map encN) i s h2 l2):=by
   refine loopC_inv (fun k=>A32 h l (acc++((l2.take k).flatMap (needR n)).map encN) i s h2 l2 k) (fun k=>k<=l2.length) (fun k=>l2.length - k) (by simp) ?_
   intro k hk
   have hnl:=flat_cnt (needR n) (needR_len n) (l2.take k)
   have hnt:=cntVs_take l2 k
   have hcl1:=cloL_encN ((l2.take k).flatMap (needR n))
   have hcl2:cloL (acc++((l2.take k).flatMap (needR n)).map encN)=true:=by rw [clo_append,hcl0,hcl1];rfl
   by_cases hi:k<l2.length
   ·left
    obtain ⟨y,hy⟩:=getOf hi
    refine ⟨k+1,by omega,by omega,?_⟩
    have hws:IntKind.i64.wrap ((k:Int)+1)=((k+1:Nat):Int):=wrap_succ (by omega)
    have hb1:decide ((k:Int)<((encVs l2).length:Int))=true:=decide_eq_true (by rw [encVs_len];omega)
    have hget:(encVs l2)[((k:Int)).toNat]?=some (encV y):=by rw [Int.toNat_natCast];exact encVs_get hy
    have hyc:cntV y<=2 ^ 30:=by have:=cntVs_mem (List.mem_of_getElem? hy);omega
    have hcy:=mut_of_pure (by simp only [cloL,encV_clo,Bool.and_self]) (hN y (hz y (List.mem_of_getElem? hy)) hyc)
    have hyl:=needR_len n y
    have hcly:=cloL_encN (needR n y)
    try simp only
    rw [show (l2.take (k+1)).flatMap (needR n)=(l2.take k).flatMap (needR n)++needR n y by rw [take_snoc hy,List.flatMap_append,List.flatMap_cons,List.flatMap_nil,List.append_nil],List.map_append,<-List.append_assoc]
    have hl2:(acc++((l2.take k).flatMap (needR n)).map encN).length<=2 ^ 32:=by rw [List.length_append,List.length_map];omega
    have hyl2:((needR n y).map encN).length<=2 ^ 30:=by rw [List.length_map];omega
    generalize acc++((l2.take k).flatMap (needR n)).map encN=acc1 at hcl2 hl2
    generalize (needR n y).map encN=r at hcy hcly hyl2
    have hcl:cloL (acc1++r)=true:=by rw [clo_append,hcl2,hcly];rfl
    obtain ⟨h3,l3⟩:=y
    exact body_of_sbodyK mixedz (n1_0 W h l acc1 i s h2 l2 k r h3 l3) Fe4_m4 [(100001,100003)] [] Fe4_m1
   ·right
    have hil:k=l2.length:=by omega
    subst hil
    rw [List.take_length] at hcl2 ⊢
    have hb1:decide ((l2.length:Int)<((encVs l2).length:Int))=false:=decide_eq_false (by rw [encVs_len];omega)
    have hcl:=hcl2
    generalize acc++(l2.flatMap (needR n)).map encN=acc1 at hcl hcl2
    exact body_of_sbodyK mixedz (n1_1 W h l acc1 i s h2 l2 l2.length) Fe4_m4 [] [] Fe4_m1
  have:=key 0 (by omega)
  simp only [List.take_zero,List.flatMap_nil,List.map_nil,List.append_nil] at this
  exact this
 ·rw [if_neg es,List.map_nil,List.append_nil]
  have hb0:decide (s=[36,97,110,100])=false:=decide_eq_false es
  exact loop_last (by simp) (body_of_sbodyK mixedz (n1_2 W h l acc i s h2 l2 0) Fe4_m4 [] [] Fe4_m1)
theorem round32 (n:Nat) (hN:∀ y:JV,sizeV y<n->cntV y<=2 ^ 30->Pure Tryz.prog W 32 [encV y] (.sl 7 ((needR n y).map encN) [])) (acc:List AV) (i:Nat) (p:List UInt8×JV) (hp:(JV.mk h l).mems[i]?=some p) (hz:∀ y ∈ p.2.items,sizeV y<n) (hq:cntV (.mk h l)<=2 ^ 30) (hc:cntV p.2<=2 ^ 30) (hl:acc.length<=2 ^ 31) (hcl0:cloL acc=true) :
 BodyC Tryz.prog W [] (nslots Tryz.prog 32) (loopOf Tryz.prog 32 0) (S32 h l acc i) .normal (S32 h l (acc++(needH n p).map encN) (i+1:Nat)):=by
 obtain ⟨s,x⟩:=p
 obtain ⟨hx,hv⟩:=(List.getElem?_zip_eq_some (l₁:=h.names) (l₂:=l) (i:=i)).1 hp
 have hi:=(List.getElem?_eq_some_iff.1 hp).1
 have hml:=JV.mems_len (.mk h l)
 have hln:=mems_ln (.mk h l)
 simp only at hz hc hx hv
 have hws:IntKind.i64.wrap ((i:Int)+1)=((i+1:Nat):Int):=wrap_succ (by omega)
 have hget:(List.map AV.str h.names)[((i:Int)).toNat]?=some (AV.str s):=by rw [Int.toNat_natCast];exact strs_get hx
 have hget2:(encVs l)[((i:Int)).toNat]?=some (encV x):=by rw [Int.toNat_natCast];exact encVs_get hv
 have hb1:decide ((i:Int)<(((JV.mk h l).mem:Nat):Int))=true:=decide_eq_true (by omega)
 have hc1:=mut_of_pure (by simp only [cloL,encV_clo,Bool.and_self]) (members65 W (.mk h l))
 have hc2:=mut_of_pure (by rfl) (dollar69 W s)
 have hc3:=mut_of_pure (by simp only [cloL,encV_clo,Bool.and_self]) (first74 W x)
 have hc4:=mut_of_pure (by rfl) (dollar69 W (firstS x))
 have hcx:=cntV_eq x
 have hmx:=JV.mems_len x
 have hmi:=JV.mem_items x
 have hil:=cntVs_len x.items
 have hnl:=flat_cnt (needR n) (needR_len n) x.items
 obtain ⟨h2,l2⟩:=x
 simp only [JV.items,JV.names,JV.hd] at hz hcx hmi hil hnl
 have hlp:=and32 W h l n hN acc i s h2 l2 hz (by omega) hl hcl0
 have hA:((if s=sAnd then l2.flatMap (needR n) else []):List Nd).length<=2 ^ 30:=by
  split
  ·omega
  ·simp only [List.length_nil];omega
 have hclA:cloL (acc++((if s=sAnd then l2.flatMap (needR n) else []):List Nd).map encN)=true:=by rw [clo_append,hcl0,cloL_encN];rfl
 have hlA:(acc++((if s=sAnd then l2.flatMap (needR n) else []):List Nd).map encN).length<=2 ^ 32:=by rw [List.length_append,List.length_map];omega
 unfold needH
 simp only [JV.items,JV.hd]
 rw [List.map_append,<-List.append_assoc]
 generalize acc++((if s=sAnd then l2.flatMap (needR n) else []):List Nd).map encN=acc1 at hlp hclA hlA
 by_cases hd:dollarB s=true
 ·rw [if_pos hd,List.map_nil,List.append_nil]
  rw [hd] at hc2
  have hcl:=hclA
  exact body_of_sbodyK mixedz (n0d_0 W h l acc i s h2 l2 (((JV.mk h l).mem:Nat):Int) acc1) Fe4_m4 [] [] Fe4_m1
 rw [if_neg hd]
 rw [show dollarB s=false by simpa using hd] at hc2
 by_cases hf:dollarB (firstS (.mk h2 l2))=true
 ·rw [if_pos hf]
  rw [hf] at hc4
  have hlp2:=mem32 W h l acc1 i s h2 l2 (by omega) hclA
  have hcl:cloL (acc1++(needT s (JV.mk h2 l2).mems).map encN)=true:=by rw [clo_append,hclA,cloL_encN];rfl
  generalize acc1++(needT s (JV.mk h2 l2).mems).map encN=acc2 at hlp2 hcl
  exact body_of_sbodyK mixedz (n0m_0 W h l acc i s h2 l2 (((JV.mk h l).mem:Nat):Int) acc1 acc2 (firstS (.mk h2 l2))) Fe4_m4 [] [] Fe4_m1
 ·rw [if_neg hf]
  rw [show dollarB (firstS (.mk h2 l2))=false by simpa using hf] at hc4
  have hcl:cloL (acc1++[(s,(1:Int),JV.mk h2 l2)].map encN)=true:=by rw [clo_append,hclA,cloL_encN];rfl
  exact body_of_sbodyK mixedz (n0e_0 W h l acc i s h2 l2 (((JV.mk h l).mem:Nat):Int) acc1 (firstS (.mk h2 l2))) Fe4_m4 [(100001,100004)] [] Fe4_m1
theorem needs32M (n:Nat) (hN:∀ y:JV,sizeV y<n->cntV y<=2 ^ 30->Pure Tryz.prog W 32 [encV y] (.sl 7 ((needR n y).map encN) [])) (q:JV) (hz:sizeV q<n+1) (hc:cntV q<=2 ^ 30) :
 MutC Tryz.prog W 32 [encV q] [] (.ret (.gs 100001 0 ((needR (n+1) q).map encN).length) [(100001,.arr 58 7 ((needR (n+1) q).map encN) .own)]):=by
 obtain ⟨h,l⟩:=q
 have hml:=JV.mems_len (.mk h l)
 have hln:=mems_ln (.mk h l)
 rw [needR_eq]
 have hc1:=mut_of_pure (by simp only [cloL,encV_clo,Bool.and_self]) (members65 W (.mk h l))
 have hlp:LoopC Tryz.prog W [] (nslots Tryz.prog 32) (loopOf Tryz.prog 32 0) (S32 h l [] 0) (.exit 0) (E32 (((JV.mk h l).mems.flatMap (needH n)).map encN)):=by
  have key:∀ k,k<=(JV.mk h l).mems.length->LoopC Tryz.prog W [] (nslots Tryz.prog 32) (loopOf Tryz.prog 32 0) (S32 h l ((((JV.mk h l).mems.take k).flatMap (needH n)).map encN) k) (.exit 0) (E32 (((JV.mk h l).mems.flatMap (needH n)).map encN)):=by
   refine loopC_inv (fun k=>S32 h l ((((JV.mk h l).mems.take k).flatMap (needH n)).map encN) k) (fun k=>k<=(JV.mk h l).mems.length) (fun k=>(JV.mk h l).mems.length - k) (by simp) ?_
   intro k hk
   have hcl1:=cloL_encN (((JV.mk h l).mems.take k).flatMap (needH n))
   by_cases hi:k<(JV.mk h l).mems.length
   ·left
    obtain ⟨p,hp⟩:=getOf hi
    refine ⟨k+1,by omega,by omega,?_⟩
    have hpm:=mems_mem (List.mem_of_getElem? hp)
    have hpi:=mem_item hpm.2
    try simp only
    rw [show ((JV.mk h l).mems.take (k+1)).flatMap (needH n)=((JV.mk h l).mems.take k).flatMap (needH n)++needH n p by rw [take_snoc hp,List.flatMap_append,List.flatMap_cons,List.flatMap_nil,List.append_nil],List.map_append]
    have hlen:((((JV.mk h l).mems.take k).flatMap (needH n)).map encN).length<=2 ^ 31:=by
     rw [List.length_map]
     have:=needH_cnt n (.mk h l) k
     omega
    exact round32 W h l n hN _ k p hp (fun y hy=>by have:=mem_item hy;omega) (by omega) (by omega) hlen hcl1
   ·right
    have hil:k=(JV.mk h l).mems.length:=by omega
    subst hil
    rw [List.take_length] at hcl1 ⊢
    have hb1:decide (((JV.mk h l).mems.length:Int)<(((JV.mk h l).mem:Nat):Int))=false:=decide_eq_false (by omega)
    have hcl:=hcl1
    generalize ((JV.mk h l).mems.flatMap (needH n)).map encN=acc at hcl hcl1
    exact body_of_sbodyK mixedz (n0d_1 W h l acc ((JV.mk h l).mems.length) (((JV.mk h l).mem:Nat):Int)) Fe4_m4 [] [] Fe4_m1
  exact key 0 (by omega)
 have hcl:=cloL_encN ((JV.mk h l).mems.flatMap (needH n))
 generalize ((JV.mk h l).mems.flatMap (needH n)).map encN=acc at hlp hcl
 exact mut_of_sfun mixedz call32 rfl (p32_0 W h l acc) Fe4_m4
theorem needs32:∀ (n:Nat) (q:JV),sizeV q<n->cntV q<=2 ^ 30->Pure Tryz.prog W 32 [encV q] (.sl 7 ((needR n q).map encN) [])
 | 0,q,hz,_=>by omega
 | n+1,q,hz,hc=>pure_frz1 (needs32M W n (needs32 n) q hz hc) rfl (cloL_encN _)
end
end Go.Ac

