/- What is proved: contracts of functions of this translation, walked; their plain meaning. No condition beyond those that each theorem names. -/
import Derived.Test.YtohlmhkiejpkgaaGreatDoorFb15
set_option linter.all false
namespace Go.Ac
open Go Go.Proofs
set_option maxRecDepth 10000
set_option maxHeartbeats 1000000
theorem Fb16_z1 {cs} (h:Holds cs:=by simp only [Holds,and_true]<;>and_intros<;>first|exact zd):Holds cs:=h
def opR (n:Nat) (nm:List UInt8) (x:JV) (d t:Int):Except Int Int:=if (!isOp nm)=true then .error 41 else if (!takesB nm x)=true then .error 42 else if nm=sNot then chkT n x (d+1) t else if nm=sElem then (if (isTestB x && !joinsB (firstS x))=true then chkT n x (d+1) t else chkQ n x (d+1) t) else .ok t
theorem opR_pl {n:Nat} {nm:List UInt8} {x:JV} {d t:Int} (hop:isOp nm=true) (h1:nm ≠ sNot) (h2:nm ≠ sElem):opR n nm x d t=if takesB nm x=true then .ok t else .error 42:=by
 unfold opR
 rw [if_neg (by rw [hop];decide)]
 by_cases q:takesB nm x=true
 ·rw [if_neg (by rw [q];decide),if_neg h1,if_neg h2,if_pos q]
 ·rw [if_pos (by simpa using q),if_neg q]
def TestK (W:World) (n:Nat):Prop:=∀ (v:JV) (d t:Int),sizeV v<n->cntV v<=2 ^ 30->nmV v->0<=d->d<=17->0<=t->t<=64->MutC Tryz.prog W 146 [.gp 100000 0,encV v,iA d] (ckH (iA t) (iA 0)) (ckO (chkT n v d t))
def QueryK (W:World) (n:Nat):Prop:=∀ (v:JV) (d t:Int),sizeV v<n->cntV v<=2 ^ 30->nmV v->0<=d->d<=17->0<=t->t<=64->MutC Tryz.prog W 61 [.gp 100000 0,encV v,iA d] (ckH (iA t) (iA 0)) (ckO (chkQ n v d t))
section
variable (W:World)
theorem op168N (n:Nat) (hT:TestK W n) (hQ:QueryK W n) (x:JV) (d t:Int) (hs:sizeV x<n) (hcn:cntV x<=2 ^ 30) (hnm:nmV x) (hd:0<=d/\d<=16) (ht:0<=t/\t<=64):MutC Tryz.prog W 168 [.gp 100000 0,.str sNot,encV x,iA d] (ckH (iA t) (iA 0)) (ckO (opR n sNot x d t)):=by
 have hwd:IntKind.i64.wrap (d+1)=d+1:=IntWalk.i64_in _ (by omega)
 have hop:isOp sNot=true:=rfl
 have e:opR n sNot x d t=chkT n x (d+1) t:=by
  unfold opR;rw [if_neg (by rw [hop];decide),if_neg (by rw [show takesB sNot x=true from rfl];decide),if_pos rfl]
 rw [e]
 have hh1:=hT x (d+1) t hs hcn hnm (by omega) (by omega) ht.1 ht.2
 rw [<-hwd] at hh1 ⊢
 cases er:chkT n x (IntKind.i64.wrap (d+1)) t with
 | ok t2 =>
  rw [er] at hh1
  have hc:=hh1
  unfold ckO at hc
  obtain ⟨h,l⟩:=x
  exact mut_of_sfun mixedz call168 rfl (o168_sNot_0 W h l d t t2) Fb16_z1
 | error e2 =>
  rw [er] at hh1
  have hc:=hh1
  unfold ckO at hc
  obtain ⟨h,l⟩:=x
  exact mut_of_sfun mixedz call168 rfl (x168_sNot_0 W h l d t e2) Fb16_z1
theorem op168E (n:Nat) (hT:TestK W n) (hQ:QueryK W n) (x:JV) (d t:Int) (hs:sizeV x<n) (hcn:cntV x<=2 ^ 30) (hnm:nmV x) (hd:0<=d/\d<=16) (ht:0<=t/\t<=64):MutC Tryz.prog W 168 [.gp 100000 0,.str sElem,encV x,iA d] (ckH (iA t) (iA 0)) (ckO (opR n sElem x d t)):=by
 have hwd:IntKind.i64.wrap (d+1)=d+1:=IntWalk.i64_in _ (by omega)
 have hop:isOp sElem=true:=rfl
 have e:opR n sElem x d t=if (isTestB x && !joinsB (firstS x))=true then chkT n x (d+1) t else chkQ n x (d+1) t:=by
  unfold opR;rw [if_neg (by rw [hop];decide),if_neg (by rw [show takesB sElem x=true from rfl];decide),if_neg (by decide),if_pos rfl]
 rw [e]
 have hc1:=mut_of_pure (by simp only [cloL,encV_clo,Bool.and_self]) (first74 W x)
 have hc2:=mut_of_pure (by rfl) (dollar69 W (firstS x))
 have hc3:=mut_of_pure (by rfl) (joins70 W (firstS x))
 have hh1:=hT x (d+1) t hs hcn hnm (by omega) (by omega) ht.1 ht.2
 have hh2:=hQ x (d+1) t hs hcn hnm (by omega) (by omega) ht.1 ht.2
 rw [<-hwd] at hh1 hh2 ⊢
 unfold isTestB
 cases eb:dollarB (firstS x) with
 | true =>
  rw [eb] at hc2
  cases ej:joinsB (firstS x) with
  | false =>
   rw [ej] at hc3
   rw [if_pos (by rfl)]
   cases er:chkT n x (IntKind.i64.wrap (d+1)) t with
   | ok t2=>rw [er] at hh1;have hc:=hh1;unfold ckO at hc;obtain ⟨h,l⟩:=x;exact mut_of_sfun mixedz call168 rfl (o168_sElem_0 W h l d t t2 true false) Fb16_z1
   | error e2=>rw [er] at hh1;have hc:=hh1;unfold ckO at hc;obtain ⟨h,l⟩:=x;exact mut_of_sfun mixedz call168 rfl (x168_sElem_0 W h l d t e2 true false) Fb16_z1
  | true =>
   rw [ej] at hc3
   rw [if_neg (by decide)]
   cases er:chkQ n x (IntKind.i64.wrap (d+1)) t with
   | ok t2=>rw [er] at hh2;have hc:=hh2;unfold ckO at hc;obtain ⟨h,l⟩:=x;exact mut_of_sfun mixedz call168 rfl (o168_sElem_1 W h l d t t2 true true) Fb16_z1
   | error e2=>rw [er] at hh2;have hc:=hh2;unfold ckO at hc;obtain ⟨h,l⟩:=x;exact mut_of_sfun mixedz call168 rfl (x168_sElem_1 W h l d t e2 true true) Fb16_z1
 | false =>
  rw [eb] at hc2
  rw [if_neg (by rw [Bool.false_and];decide)]
  cases er:chkQ n x (IntKind.i64.wrap (d+1)) t with
  | ok t2=>rw [er] at hh2;have hc:=hh2;unfold ckO at hc;obtain ⟨h,l⟩:=x;exact mut_of_sfun mixedz call168 rfl (o168_sElem_2 W h l d t t2 false) Fb16_z1
  | error e2=>rw [er] at hh2;have hc:=hh2;unfold ckO at hc;obtain ⟨h,l⟩:=x;exact mut_of_sfun mixedz call168 rfl (x168_sElem_2 W h l d t e2 false) Fb16_z1
theorem op168 (n:Nat) (hT:TestK W n) (hQ:QueryK W n) (nm:List UInt8) (x:JV) (d t:Int) (hs:sizeV x<n) (hcn:cntV x<=2 ^ 30) (hnm:nmV x) (hd:0<=d/\d<=16) (ht:0<=t/\t<=64):MutC Tryz.prog W 168 [.gp 100000 0,.str nm,encV x,iA d] (ckH (iA t) (iA 0)) (ckO (opR n nm x d t)):=by
 have hwd:IntKind.i64.wrap (d+1)=d+1:=IntWalk.i64_in _ (by omega)
 by_cases hop:isOp nm=true
 case neg =>
  have e:opR n nm x d t=.error 41:=by unfold opR;rw [if_pos (by simpa using hop)]
  rw [e]
  have hno:¬ (nm=sEq\/nm=sNe\/nm=sGt\/nm=sGte\/nm=sLt\/nm=sLte\/nm=sIn\/nm=sNin\/nm=sAll\/nm=sExists\/nm=sType\/nm=sSize\/nm=sMod\/nm=sNot\/nm=sElem):=fun q=>hop (by simpa [isOp] using q)
  simp only [not_or] at hno
  obtain ⟨a1,a2,a3,a4,a5,a6,a7,a8,a9,b1,b2,b3,b4,b5,b6⟩:=hno
  have ca1:¬ nm=[36,101,113]:=a1
  have ca2:¬ nm=[36,110,101]:=a2
  have ca3:¬ nm=[36,103,116]:=a3
  have ca4:¬ nm=[36,103,116,101]:=a4
  have ca5:¬ nm=[36,108,116]:=a5
  have ca6:¬ nm=[36,108,116,101]:=a6
  have ca7:¬ nm=[36,105,110]:=a7
  have ca8:¬ nm=[36,110,105,110]:=a8
  have ca9:¬ nm=[36,97,108,108]:=a9
  have cb1:¬ nm=[36,101,120,105,115,116,115]:=b1
  have cb2:¬ nm=[36,116,121,112,101]:=b2
  have cb3:¬ nm=[36,115,105,122,101]:=b3
  have cb4:¬ nm=[36,109,111,100]:=b4
  have cb5:¬ nm=[36,110,111,116]:=b5
  have cb6:¬ nm=[36,101,108,101,109,77,97,116,99,104]:=b6
  obtain ⟨h,l⟩:=x
  exact err_of W (mut_of_sfun mixedz call168 rfl (u168_0 W h l d t nm) Fb16_z1)
 rcases op_cases hop with rfl|rfl|rfl|rfl|rfl|rfl|rfl|rfl|rfl|rfl|rfl|rfl|rfl|rfl|rfl
 ·
  rw [opR_pl hop (by decide) (by decide)]
  obtain ⟨h,l⟩:=x
  rw [if_pos (show takesB sEq (.mk h l)=true from rfl)]
  exact mut_of_sfun mixedz call168 rfl (o168_sEq_0 W h l d t) Fb16_z1
 ·
  rw [opR_pl hop (by decide) (by decide)]
  obtain ⟨h,l⟩:=x
  rw [if_pos (show takesB sNe (.mk h l)=true from rfl)]
  exact mut_of_sfun mixedz call168 rfl (o168_sNe_0 W h l d t) Fb16_z1
 ·
  rw [opR_pl hop (by decide) (by decide)]
  obtain ⟨h,l⟩:=x
  rw [if_pos (show takesB sGt (.mk h l)=true from rfl)]
  exact mut_of_sfun mixedz call168 rfl (o168_sGt_0 W h l d t) Fb16_z1
 ·
  rw [opR_pl hop (by decide) (by decide)]
  obtain ⟨h,l⟩:=x
  rw [if_pos (show takesB sGte (.mk h l)=true from rfl)]
  exact mut_of_sfun mixedz call168 rfl (o168_sGte_0 W h l d t) Fb16_z1
 ·
  rw [opR_pl hop (by decide) (by decide)]
  obtain ⟨h,l⟩:=x
  rw [if_pos (show takesB sLt (.mk h l)=true from rfl)]
  exact mut_of_sfun mixedz call168 rfl (o168_sLt_0 W h l d t) Fb16_z1
 ·
  rw [opR_pl hop (by decide) (by decide)]
  obtain ⟨h,l⟩:=x
  rw [if_pos (show takesB sLte (.mk h l)=true from rfl)]
  exact mut_of_sfun mixedz call168 rfl (o168_sLte_0 W h l d t) Fb16_z1
 ·
  rw [opR_pl hop (by decide) (by decide)]
  obtain ⟨h,l⟩:=x
  rw [show takesB sIn (.mk h l)=decide (h.kind=5) from rfl]
  by_cases k5:h.kind=5
  ·have hb1:(!decide (h.kind=5))=false:=by rw [decide_eq_true k5];rfl
   rw [if_pos (decide_eq_true k5)];exact mut_of_sfun mixedz call168 rfl (o168_sIn_1 W h l d t) Fb16_z1
  ·have hb1:(!decide (h.kind=5))=true:=by rw [decide_eq_false k5];rfl
   rw [if_neg (by rw [decide_eq_false k5];decide)];exact err_of W (mut_of_sfun mixedz call168 rfl (o168_sIn_0 W h l d t) Fb16_z1)
 ·
  rw [opR_pl hop (by decide) (by decide)]
  obtain ⟨h,l⟩:=x
  rw [show takesB sNin (.mk h l)=decide (h.kind=5) from rfl]
  by_cases k5:h.kind=5
  ·have hb1:(!decide (h.kind=5))=false:=by rw [decide_eq_true k5];rfl
   rw [if_pos (decide_eq_true k5)];exact mut_of_sfun mixedz call168 rfl (o168_sNin_1 W h l d t) Fb16_z1
  ·have hb1:(!decide (h.kind=5))=true:=by rw [decide_eq_false k5];rfl
   rw [if_neg (by rw [decide_eq_false k5];decide)];exact err_of W (mut_of_sfun mixedz call168 rfl (o168_sNin_0 W h l d t) Fb16_z1)
 ·
  rw [opR_pl hop (by decide) (by decide)]
  obtain ⟨h,l⟩:=x
  rw [show takesB sAll (.mk h l)=decide (h.kind=5) from rfl]
  by_cases k5:h.kind=5
  ·have hb1:(!decide (h.kind=5))=false:=by rw [decide_eq_true k5];rfl
   rw [if_pos (decide_eq_true k5)];exact mut_of_sfun mixedz call168 rfl (o168_sAll_1 W h l d t) Fb16_z1
  ·have hb1:(!decide (h.kind=5))=true:=by rw [decide_eq_false k5];rfl
   rw [if_neg (by rw [decide_eq_false k5];decide)];exact err_of W (mut_of_sfun mixedz call168 rfl (o168_sAll_0 W h l d t) Fb16_z1)
 ·
  rw [opR_pl hop (by decide) (by decide)]
  obtain ⟨h,l⟩:=x
  rw [show takesB sExists (.mk h l)=decide (h.kind=1\/h.kind=2) from rfl]
  by_cases k1:h.kind=1
  ·rw [if_pos (decide_eq_true (.inl k1))];exact mut_of_sfun mixedz call168 rfl (o168_sExists_0 W h l d t) Fb16_z1
  by_cases k2:h.kind=2
  ·have hb1:(!decide (h.kind=2))=false:=by rw [decide_eq_true k2];rfl
   rw [if_pos (decide_eq_true (.inr k2))];exact mut_of_sfun mixedz call168 rfl (o168_sExists_2 W h l d t) Fb16_z1
  ·have hb1:(!decide (h.kind=2))=true:=by rw [decide_eq_false k2];rfl
   rw [if_neg (by rw [decide_eq_false (by rintro (q|q);exact k1 q;exact k2 q)];decide)];exact err_of W (mut_of_sfun mixedz call168 rfl (o168_sExists_1 W h l d t) Fb16_z1)
 ·
  rw [opR_pl hop (by decide) (by decide)]
  obtain ⟨h,l⟩:=x
  rw [show takesB sType (.mk h l)=(decide (h.kind=4) && decide (0<=typeN h.text)) from rfl]
  have hc:=mut_of_pure (by rfl) (type188 W h.text)
  by_cases k4:h.kind=4
  ·by_cases q:0<=typeN h.text
   ·have hb1:(!decide (0<=typeN h.text))=false:=by rw [decide_eq_true q];rfl
    rw [if_pos (by rw [decide_eq_true k4,decide_eq_true q];rfl)];exact mut_of_sfun mixedz call168 rfl (o168_sType_1 W h l d t) Fb16_z1
   ·have hb1:(!decide (0<=typeN h.text))=true:=by rw [decide_eq_false q];rfl
    rw [if_neg (by rw [decide_eq_false q,Bool.and_false];decide)];exact err_of W (mut_of_sfun mixedz call168 rfl (o168_sType_0 W h l d t) Fb16_z1)
  ·rw [if_neg (by rw [decide_eq_false k4,Bool.false_and];decide)];exact err_of W (mut_of_sfun mixedz call168 rfl (o168_sType_2 W h l d t) Fb16_z1)
 ·
  rw [opR_pl hop (by decide) (by decide)]
  obtain ⟨h,l⟩:=x
  rw [show takesB sSize (.mk h l)=(decide (h.kind=3) && decide (0<=h.int)) from rfl]
  by_cases k3:h.kind=3
  ·by_cases q:0<=h.int
   ·have hb1:(!decide (0<=h.int))=false:=by rw [decide_eq_true q];rfl
    rw [if_pos (by rw [decide_eq_true k3,decide_eq_true q];rfl)];exact mut_of_sfun mixedz call168 rfl (o168_sSize_1 W h l d t) Fb16_z1
   ·have hb1:(!decide (0<=h.int))=true:=by rw [decide_eq_false q];rfl
    rw [if_neg (by rw [decide_eq_false q,Bool.and_false];decide)];exact err_of W (mut_of_sfun mixedz call168 rfl (o168_sSize_0 W h l d t) Fb16_z1)
  ·rw [if_neg (by rw [decide_eq_false k3,Bool.false_and];decide)];exact err_of W (mut_of_sfun mixedz call168 rfl (o168_sSize_2 W h l d t) Fb16_z1)
 ·
  rw [opR_pl hop (by decide) (by decide)]
  obtain ⟨h,l⟩:=x
  by_cases k5:h.kind=5
  case neg =>
   have hk:takesB sMod (.mk h l)=false:=by
    show (decide (h.kind=5) && _)=false
    rw [decide_eq_false k5,Bool.false_and]
   rw [if_neg (by rw [hk];decide)];exact err_of W (mut_of_sfun mixedz call168 rfl (o168_sMod_5 W h l d t) Fb16_z1)
  have hsh:(∃ a b,l=[a,b])\/(takesB sMod (.mk h l)=false/\l.length ≠ 2):=by
   match l with
   | []=>exact .inr ⟨by show (decide (h.kind=5) && false)=false;rw [Bool.and_false],by simp⟩
   | [a]=>exact .inr ⟨by show (decide (h.kind=5) && false)=false;rw [Bool.and_false],by simp⟩
   | [a,b]=>exact .inl ⟨a,b,rfl⟩
   | a::b::c::r=>exact .inr ⟨by show (decide (h.kind=5) && false)=false;rw [Bool.and_false],by simp⟩
  rcases hsh with ⟨a,b,rfl⟩|⟨hk,hl2⟩
  case inr =>
   have hb1:decide (((encVs l).length:Int)=2)=false:=decide_eq_false (by rw [encVs_len];omega)
   rw [if_neg (by rw [hk];decide)];exact err_of W (mut_of_sfun mixedz call168 rfl (o168_sMod_4 W h l d t) Fb16_z1)
  obtain ⟨h3,l3⟩:=a
  obtain ⟨h4,l4⟩:=b
  have hk:takesB sMod (.mk h [JV.mk h3 l3,JV.mk h4 l4])=(decide (h.kind=5) && (decide (h3.kind=3) && decide (h4.kind=3) && !decide (h3.int=0))):=rfl
  have hget:(encVs [JV.mk h3 l3,JV.mk h4 l4])[0]?=some (encV (.mk h3 l3)):=rfl
  have hget2:(encVs [JV.mk h3 l3,JV.mk h4 l4])[1]?=some (encV (.mk h4 l4)):=rfl
  have hb2:decide (((encVs [JV.mk h3 l3,JV.mk h4 l4]).length:Int)=2)=true:=rfl
  by_cases k3:h3.kind=3
  case neg=>rw [if_neg (by rw [hk,decide_eq_false k3];simp)];exact err_of W (mut_of_sfun mixedz call168 rfl (o168_sMod_3 W h [JV.mk h3 l3,JV.mk h4 l4] d t h3 l3) Fb16_z1)
  by_cases k4:h4.kind=3
  case neg=>rw [if_neg (by rw [hk,decide_eq_false k4];simp)];exact err_of W (mut_of_sfun mixedz call168 rfl (o168_sMod_2 W h [JV.mk h3 l3,JV.mk h4 l4] d t h3 l3 h4 l4) Fb16_z1)
  by_cases z0:h3.int=0
  ·have hb1:(!!decide (h3.int=0))=true:=by rw [decide_eq_true z0];rfl
   rw [if_neg (by rw [hk,decide_eq_true z0];simp)];exact err_of W (mut_of_sfun mixedz call168 rfl (o168_sMod_0 W h [JV.mk h3 l3,JV.mk h4 l4] d t h3 l3 h4 l4) Fb16_z1)
  ·have hb1:(!!decide (h3.int=0))=false:=by rw [decide_eq_false z0];rfl
   rw [if_pos (by rw [hk,decide_eq_true k5,decide_eq_true k3,decide_eq_true k4,decide_eq_false z0];rfl)];exact mut_of_sfun mixedz call168 rfl (o168_sMod_1 W h [JV.mk h3 l3,JV.mk h4 l4] d t h3 l3 h4 l4) Fb16_z1
 ·exact op168N W n hT hQ x d t hs hcn hnm hd ht
 ·exact op168E W n hT hQ x d t hs hcn hnm hd ht
end
end Go.Ac

