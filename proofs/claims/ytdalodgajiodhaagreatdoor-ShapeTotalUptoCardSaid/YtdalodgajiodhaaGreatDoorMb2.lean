/- What is proved: contracts of functions of this translation, walked; their plain meaning. No condition beyond those that each theorem names. -/
import Derived.Test.YtdalodgajiodhaaGreatDoorMb1
import Derived.Test.YtdalodgajiodhaaGreatDoorMa6
import Derived.RangeFuncNested
import Derived.RangeFuncBound
import Derived.RangeFuncCalls
import Derived.RangeFuncLeaves
import Derived.RangeFuncBox
import Derived.Shelf.Abstract
import Derived.Shelf.RegionOpen
import Derived.WalkKit
import Derived.OwnWalkIn
import Derived.TacticsInMore
import Derived.LoopNIn
import Derived.LoopIn
import Derived.Test.YtdalodgajiodhaaGreatDoorProg
import Derived.Test.YtdalodgajiodhaaGreatDoorMa5
set_option linter.all false
namespace Go.Ac
open Go Go.Proofs
set_option maxRecDepth 10000
set_option maxHeartbeats 1000000
theorem Fb6_z1 {kp f ph σ σ'} (h:MatchK kp f ph σ σ':=by exact ⟨by rfl,(by simp only [S95,E95,S30,E30,S202,E202,S149,tOK,List.map_cons,List.map_nil,and_true]<;>exact zt),(by simp only [S95,E95,S30,E30,S202,E202,S149,hOK,List.map_cons,List.map_nil,and_true]<;>exact zh),(by simp only [S95,E95,S30,E30,S202,E202,S149,liveT,List.map_cons,List.map_nil,and_true]<;>exact zv),(by simp only [S95,E95,S30,E30,S202,E202,S149,liveH,List.map_cons,List.map_nil,and_true]<;>exact zv)⟩):MatchK kp f ph σ σ':=h
theorem Fb6_z5 {cs} (h:Holds cs:=by simp only [Holds,and_true]<;>and_intros<;>first|exact zd|((simp only [defLen1,List.length_cons,List.length_map];omega);done)):Holds cs:=h
theorem Fb6_z6 {cs} (h:Holds cs:=by simp only [Holds,and_true]<;>and_intros<;>first|exact zd|((simp only [defLen1,List.length_cons,List.length_map];omega);done)|exact Fb6_z1):Holds cs:=h
def S95 (l:List JV) (s:List UInt8) (p:List (List UInt8)) (acc:List JV) (i:Nat):AS:=⟨[(1,.sl 1 ((s::p).map AV.str) []),(7,.gs 100001 0 acc.length),(31,.sl 5 (encVs l) []),(32,iA l.length),(33,iA i)],[(100001,.arr 25 5 (encVs acc) .own)]⟩
def E95 (acc:List JV):AS:=⟨[(7,.gs 100001 0 acc.length)],[(100001,.arr 25 5 (encVs acc) .own)]⟩
def S30 (h:JH) (l:List JV) (s:List UInt8) (p:List (List UInt8)) (b:Bool) (acc:List JV) (i:Nat):AS:=⟨[(1,.sl 1 ((s::p).map AV.str) []),(2,.gp 100000 0),(6,bA b),(8,.gs 100001 0 acc.length),(9,iA i)],[(100000,.box (encV (.mk h l)) .own),(100001,.arr 25 5 (encVs acc) .own)]⟩
def E30 (acc:List JV):AS:=⟨[(8,.gs 100001 0 acc.length)],[(100001,.arr 25 5 (encVs acc) .own)]⟩
def S202 (l:List JV) (acc:List JV) (i:Nat):AS:=⟨[(3,.gs 100000 0 acc.length),(6,.sl 5 (encVs l) []),(7,iA l.length),(8,iA i)],[(100000,.arr 25 5 (encVs acc) .own)]⟩
def E202 (acc:List JV):AS:=⟨[(3,.gs 100000 0 acc.length)],[(100000,.arr 25 5 (encVs acc) .own)]⟩
def S149 (l:List JV) (acc:List JV) (i:Nat):AS:=⟨[(0,.sl 5 (encVs l) []),(3,.gs 100000 0 acc.length),(4,iA i)],[(100000,.arr 25 5 (encVs acc) .own)]⟩
theorem p95_2 (W:World) (h:JH) (l:List JV) (s:List UInt8) (p:List (List UInt8)) (m k:Int) (b:Bool) (h2:JH) (l2:List JV) (r:List JV):sF W {lp:=true,fin:=9,tl:=[56,76,45]} 45 [eV h l,.sl 1 ((s::p).map AV.str) []] [] 100000 [ee,cR (.tup [iA m,bA b]) [],bt,bt,bt,bf,ee,cR (iA k) [],bf,.lg,oS (eV h2 l2),aE 1,.lg,ee,cR (sL 5 (encVs r)) [],ee,.fin [] [] (sL 5 (encVs r)) [],ee] []=.ok (.ret (sL 5 (encVs r)) [],[ee],MatchK [] [] [] {t:=[(0,sL 5 (encVs r))],h:=[(100000,gB (eV h l))]} {t:=[(0,sL 5 (encVs r))],h:=[]}::MZ W 45 [eV h2 l2,AV.sl 1 (List.take (List.map AV.str p).length (List.map AV.str p++[])) (List.drop (↑(defLen (sL 1 (.str s::List.map AV.str p))):Int).toNat (.str s::(List.map AV.str p++[])))] [] (.ret (sL 5 (encVs r)) [])::(1<=(↑(defLen (sL 1 (.str s::List.map AV.str p))):Int)/\(↑(defLen (sL 1 (.str s::List.map AV.str p))):Int)<=(↑(AV.str s::List.map AV.str p).length:Int)+0)::((encVs l)[k.toNat]?=some (eV h2 l2))::(0<=k)::(decide (k<0)=false)::MZ W 76 [eV h l,.str s] [] (.ret (iA k) [])::((!b)=false)::(d3 (decide (h.kind=5)=true) [MZ W 56 [.str s] [] (.ret (.tup [iA m,bA b]) [])])):=kr
theorem p95_4 (W:World) (h:JH) (l:List JV) (s:List UInt8) (p:List (List UInt8)) (m k:Int) (b:Bool) (h2:JH) (l2:List JV) (r:List JV):sF W {lp:=true,fin:=9,tl:=[56,76,45]} 45 [eV h l,.sl 1 ((s::p).map AV.str) []] [] 100000 [ee,cR (.tup [iA m,bA b]) [],bf,bf,bf,ee,cR (iA k) [],bf,.lg,oS (eV h2 l2),aE 1,.lg,ee,cR (sL 5 (encVs r)) [],ee,.fin [] [] (sL 5 (encVs r)) [],ee] []=.ok (.ret (sL 5 (encVs r)) [],[ee],MatchK [] [] [] {t:=[(0,sL 5 (encVs r))],h:=[(100000,gB (eV h l))]} {t:=[(0,sL 5 (encVs r))],h:=[]}::MZ W 45 [eV h2 l2,AV.sl 1 (List.take (List.map AV.str p).length (List.map AV.str p++[])) (List.drop (↑(defLen (sL 1 (.str s::List.map AV.str p))):Int).toNat (.str s::(List.map AV.str p++[])))] [] (.ret (sL 5 (encVs r)) [])::(1<=(↑(defLen (sL 1 (.str s::List.map AV.str p))):Int)/\(↑(defLen (sL 1 (.str s::List.map AV.str p))):Int)<=(↑(AV.str s::List.map AV.str p).length:Int)+0)::((encVs l)[k.toNat]?=some (eV h2 l2))::(0<=k)::(decide (k<0)=false)::MZ W 76 [eV h l,.str s] [] (.ret (iA k) [])::(d3 (decide (h.kind=5)=false) [MZ W 56 [.str s] [] (.ret (.tup [iA m,bA b]) [])])):=kr
theorem l95_0 (W:World) (h:JH) (l:List JV) (s:List UInt8) (p:List (List UInt8)) (m:Int) (b:Bool) (acc:List JV):sF W {lp:=true,fin:=9,tl:=[56,76,45]} 45 [eV h l,.sl 1 ((s::p).map AV.str) []] [] 100000 [ee,cR (.tup [iA m,bA b]) [],bt,bt,bt,bt,ee,.loopM [] [(100001,5)] (S95 l s p [] 0) (.exit 0) (E95 acc),ee,.fin [] [] (.gs 100001 0 acc.length) [(100001,.arr 25 5 (encVs acc) .own)],ee] []=.ok (.ret (.gs 100001 0 acc.length) [(100001,.arr 25 5 (encVs acc) .own)],[ee],MatchK [] [] [] {t:=[(0,.gs 100001 0 acc.length)],h:=[(100001,.arr 25 5 (encVs acc) .own)]} {t:=[(0,.gs 100001 0 acc.length)],h:=[(100001,.arr 25 5 (encVs acc) .own)]}::LZ W [] 45 0 (S95 l s p [] 0) (.exit 0) (E95 acc)::MatchK [] [] [(100001,5)] {t:=[(1,sL 1 (.str s::List.map AV.str p)),(7,.val (Value.slice none 0 0)),(31,sL 5 (encVs l)),(32,iA (↑(encVs l).length:Int)),(33,iA 0)],h:=[(100000,gB (eV h l))]} (S95 l s p [] 0)::((!b)=true)::(d3 (decide (h.kind=5)=true) [MZ W 56 [.str s] [] (.ret (.tup [iA m,bA b]) [])])):=kr
theorem z95_1 (W:World) (h:JH) (l:List JV) (s:List UInt8) (p:List (List UInt8)) (m k:Int) (b:Bool):sF W {lp:=true,tl:=[56,76,45]} 45 [eV h l,.sl 1 ((s::p).map AV.str) []] [] 100000 [ee,cR (.tup [iA m,bA b]) [],bt,bt,bt,bf,ee,cR (iA k) [],bt,ee] []=.ok (.ret (.val (Value.slice none 0 0)) [],[ee],(decide (k<0)=true)::MZ W 76 [eV h l,.str s] [] (.ret (iA k) [])::((!b)=false)::(d3 (decide (h.kind=5)=true) [MZ W 56 [.str s] [] (.ret (.tup [iA m,bA b]) [])])):=kr
theorem z95_3 (W:World) (h:JH) (l:List JV) (s:List UInt8) (p:List (List UInt8)) (m k:Int) (b:Bool):sF W {lp:=true,tl:=[56,76,45]} 45 [eV h l,.sl 1 ((s::p).map AV.str) []] [] 100000 [ee,cR (.tup [iA m,bA b]) [],bf,bf,bf,ee,cR (iA k) [],bt,ee] []=.ok (.ret (.val (Value.slice none 0 0)) [],[ee],(decide (k<0)=true)::MZ W 76 [eV h l,.str s] [] (.ret (iA k) [])::(d3 (decide (h.kind=5)=false) [MZ W 56 [.str s] [] (.ret (.tup [iA m,bA b]) [])])):=kr
theorem n95_0 (W:World) (h:JH) (l:List JV):sF W {lp:=true} 45 [eV h l,.sl 1 [] []] [] 100000 [ee] []=.ok (.ret (.gs 100001 0 1) [(100001,.arr 25 5 [eV h l] .own)],[aE 9999999],[]):=kr
theorem p30_0 (W:World) (h:JH) (l:List JV) (s:List UInt8) (p:List (List UInt8)) (m k:Int) (b:Bool) (h2:JH) (l2:List JV) (r:List JV):sF W {lp:=true,fin:=9,tl:=[101,102,85]} 85 [eV h l,.sl 1 ((s::p).map AV.str) []] [] 100000 [ee,cR (.tup [iA m,bA b]) [],ee,cR (iA k) [],bt,.lg,oS (eV h2 l2),aE 1,.lg,ee,cR (sL 5 (encVs r)) [],ee,.fin [] [] (sL 5 (encVs r)) [],ee] []=.ok (.ret (sL 5 (encVs r)) [],[ee],[MatchK [] [] [] {t:=[(0,sL 5 (encVs r))],h:=[(100000,gB (eV h l))]} {t:=[(0,sL 5 (encVs r))],h:=[]},MZ W 85 [eV h2 l2,AV.sl 1 (List.take (List.map AV.str p).length (List.map AV.str p++[])) (List.drop (↑(defLen (sL 1 (.str s::List.map AV.str p))):Int).toNat (.str s::(List.map AV.str p++[])))] [] (.ret (sL 5 (encVs r)) []),1<=(↑(defLen (sL 1 (.str s::List.map AV.str p))):Int)/\(↑(defLen (sL 1 (.str s::List.map AV.str p))):Int)<=(↑(AV.str s::List.map AV.str p).length:Int)+0,(encVs l)[k.toNat]?=some (eV h2 l2),0<=k,decide (0<=k)=true,MZ W 102 [eV h l,.str s] [] (.ret (iA k) []),MZ W 101 [.str s] [] (.ret (.tup [iA m,bA b]) [])]):=kr
theorem b95_0 (W:World) (h:JH) (l:List JV) (s:List UInt8) (p:List (List UInt8)) (h2:JH) (l2:List JV) (acc r:List JV) (i:Nat):sQ W {lp:=true,tl:=[45]} 45 0 [] [1,7,31,32,33] (S95 l s p acc i) [bt,aE 1,oS (eV h2 l2),bt,ee,cR (sL 5 (encVs r)) [],aE 1,.lg,.lg,ee]=.ok ((.normal,{t:=[(1,sL 1 (.str s::List.map AV.str p)),(7,.gs 100003 0 (acc.length+(encVs r).length)),(31,sL 5 (encVs l)),(32,iA (l.length:Int)),(33,iA (IntKind.i64.wrap ((i:Int)+1)))],h:=[(100001,.dead),(100002,gB (eV h2 l2)),(100003,.arr 25 5 (List.take acc.length (encVs acc)++encVs r) .own)]}),[ee],[(acc.length+(encVs r).length) * 80<=140737488355328,(St.own=St.own\/St.own=St.shr/\acc.length=(encVs acc).length)/\acc.length<=(encVs acc).length,MZ W 45 [eV h2 l2,sL 1 (.str s::List.map AV.str p)] [] (.ret (sL 5 (encVs r)) []),decide (h2.kind=6)=true,(encVs l)[(i:Int).toNat]?=some (eV h2 l2),decide ((i:Int)<(l.length:Int))=true]):=kr
theorem b95_1 (W:World) (h:JH) (l:List JV) (s:List UInt8) (p:List (List UInt8)) (h2:JH) (l2:List JV) (acc:List JV) (i:Nat):sQ W {lp:=true,tl:=[45]} 45 0 [] [1,7,31,32,33] (S95 l s p acc i) [bt,aE 1,oS (eV h2 l2),bf,ee]=.ok ((.normal,{t:=[(1,sL 1 (.str s::List.map AV.str p)),(7,.gs 100001 0 acc.length),(31,sL 5 (encVs l)),(32,iA (l.length:Int)),(33,iA (IntKind.i64.wrap ((i:Int)+1)))],h:=[(100001,.arr 25 5 (encVs acc) .own),(100002,gB (eV h2 l2))]}),[ee],[decide (h2.kind=6)=false,(encVs l)[(i:Int).toNat]?=some (eV h2 l2),decide ((i:Int)<(l.length:Int))=true]):=kr
theorem b95_2 (W:World) (h:JH) (l:List JV) (s:List UInt8) (p:List (List UInt8)) (acc:List JV) (i:Nat):sQ W {lp:=true,tl:=[45]} 45 0 [] [1,3,7,8,31,32,33] (S95 l s p acc i) [bf,ee]=.ok ((.exit 0,{t:=[(1,sL 1 (.str s::List.map AV.str p)),(7,.gs 100001 0 acc.length),(31,sL 5 (encVs l)),(32,iA (l.length:Int)),(33,iA (i:Int))],h:=[(100001,.arr 25 5 (encVs acc) .own)]}),[ee],[decide ((i:Int)<(l.length:Int))=false]):=kr
theorem call95:callable Tryz.prog 45=true:=kr
theorem call30:callable Tryz.prog 85=true:=kr
theorem encVs_app (a b:List JV):encVs (a++b)=encVs a++encVs b:=by simp only [encVs_map,List.map_append]
theorem encVs_push (acc r:List JV):List.take acc.length (encVs acc)++encVs r=encVs (acc++r):=by rw [<-encVs_len acc,List.take_length,encVs_app]
theorem cntVs_app:∀ a b:List JV,cntVs (a++b)=cntVs a+cntVs b
 | [],b=>by simp [cntVs]
 | x::a,b=>by simp only [List.cons_append,cntVs,cntVs_app a b];omega
theorem cntVs_flat (f:JV->List JV) (hf:∀ x,cntVs (f x)<=cntV x):∀ l:List JV,cntVs (l.flatMap f)<=cntVs l
 | []=>by simp [cntVs]
 | x::l=>by
  have:=hf x;have:=cntVs_flat f hf l
  simp only [List.flatMap_cons,cntVs_app,cntVs];omega
theorem cntVs_take:∀ (l:List JV) (i:Nat),cntVs (l.take i)<=cntVs l
 | [],i=>by simp
 | x::l,0=>by simp [cntVs]
 | x::l,i+1=>by have:=cntVs_take l i;simp only [List.take_succ_cons,cntVs];omega
theorem oneV_cnt (v:JV) (s:List UInt8) (f:JV->List JV) (hf:∀ x,cntVs (f x)<=cntV x):cntVs (oneV v s f)<=cntV v:=by
 unfold oneV
 split
 ·simp [cntVs]
 ·split
  ·rename_i x hx;have:=hf x;have:=cntV_item hx;omega
  ·simp [cntVs]
theorem allV_cnt:∀ (p:List (List UInt8)) (v:JV),cntVs (allV v p)<=cntV v
 | [],v=>by rw [allV];simp [cntVs]
 | s::p,v=>by
  rw [allV]
  split
  ·have:=cntVs_flat (pickV s p) (fun x=>by
    unfold pickV;split
    ·exact oneV_cnt _ _ _ (allV_cnt p)
    ·simp [cntVs]) v.items
   rw [cntV_eq];unfold pickV at this;omega
  ·exact oneV_cnt _ _ _ (allV_cnt p)
theorem pickV_cnt (s:List UInt8) (p:List (List UInt8)) (x:JV):cntVs (pickV s p x)<=cntV x:=by
 unfold pickV;split
 ·exact oneV_cnt _ _ _ (allV_cnt p)
 ·simp [cntVs]
theorem acc_step {l:List JV} {s:List UInt8} {p:List (List UInt8)} {i:Nat} {x:JV} (h:l[i]?=some x):(l.take (i+1)).flatMap (pickV s p)=(l.take i).flatMap (pickV s p)++pickV s p x:=by
 rw [take_snoc h,List.flatMap_append];simp
theorem acc_bd (l:List JV) (s:List UInt8) (p:List (List UInt8)) (i:Nat):((l.take i).flatMap (pickV s p)).length<=cntVs l:=by
 have h1:=cntVs_flat (pickV s p) (pickV_cnt s p) (l.take i)
 have h2:=cntVs_take l i
 have h3:=cntVs_len ((l.take i).flatMap (pickV s p))
 omega
def AllC (W:World) (f:FuncId) (x:JV) (q:List (List UInt8)):Prop:=Pure Tryz.prog W f [encV x,.sl 1 (q.map AV.str) []] (.sl 5 (encVs (allV x q)) [])
section
variable (W:World) (l:List JV) (s:List UInt8) (p:List (List UInt8))
theorem loop95 (hl:cntVs l<=2 ^ 30) (hr:∀ x ∈ l,x.kind=6->AllC W 45 x (s::p)):∀ i:Nat,i<=l.length->LoopC Tryz.prog W [] (nslots Tryz.prog 45) (loopOf Tryz.prog 45 0) (S95 l s p ((l.take i).flatMap (pickV s p)) i) (.exit 0) (E95 (l.flatMap (pickV s p))):=by
 refine loopC_inv (fun i:Nat=>S95 l s p ((l.take i).flatMap (pickV s p)) i) (fun i=>i<=l.length) (fun i=>l.length - i) (by simp) ?_
 intro i h1
 have hlen:=cntVs_len l
 have hws:IntKind.i64.wrap ((i:Int)+1)=((i+1:Nat):Int):=wrap_succ (by omega)
 by_cases hi:i<l.length
 ·left
  obtain ⟨x,hx⟩:=getOf hi
  refine ⟨i+1,by omega,by omega,?_⟩
  have hget:(encVs l)[((i:Int)).toNat]?=some (encV x):=by rw [Int.toNat_natCast];exact encVs_get hx
  have hb0:=acc_bd l s p i
  have hb2:=acc_bd l s p (i+1)
  rw [acc_step hx] at hb2 ⊢
  generalize (l.take i).flatMap (pickV s p)=acc at hb0 hb2
  by_cases hk:x.kind=6
  ·have hpk:=allV_obj (s:=s) (p:=p) hk
   have hc:MutC Tryz.prog W 45 [encV x,.sl 1 ((s::p).map AV.str) []] [] (.ret (.sl 5 (encVs (pickV s p x)) []) []):=by
    rw [<-hpk];exact mut_of_pure (by simp only [cloL,encV_clo,Bool.and_self];rfl) (hr x (List.mem_of_getElem? hx) hk)
   generalize pickV s p x=r at hb2 hc
   have hbr:acc.length+r.length<=2 ^ 30:=by simp only [List.length_append] at hb2;omega
   obtain ⟨h2,l2⟩:=x
   exact body_of_sbodyK mixedz (b95_0 W ⟨0,0,[],[]⟩ l s p h2 l2 acc r i) Fb6_z5 [(100001,100003)] [] Fb6_z1
  ·rw [pickV_not hk,List.append_nil]
   obtain ⟨h2,l2⟩:=x
   exact body_of_sbodyK mixedz (b95_1 W ⟨0,0,[],[]⟩ l s p h2 l2 acc i) Fb6_z5 [] [] Fb6_z1
 ·right
  have hil:i=l.length:=by omega
  subst hil
  rw [List.take_length]
  exact body_of_sbodyK mixedz (b95_2 W ⟨0,0,[],[]⟩ l s p _ l.length) Fb6_z5 [] [] Fb6_z1
end
theorem steps_obj {u x:JV} {s:List UInt8} {p:List (List UInt8)} (h:u.kind=5) (h6:x.kind=6):stepsV x (s::p)<stepsV u (s::p):=by
 unfold stepsV;rw [if_pos h6,if_neg (by omega)];omega
theorem steps_tail {u x:JV} {s:List UInt8} {p:List (List UInt8)}:stepsV x p<stepsV u (s::p):=by
 unfold stepsV;simp only [List.length_cons];split<;>split<;>omega
theorem defLen1 (s:List UInt8) (p:List (List UInt8)):defLen (AV.sl 1 (AV.str s::List.map AV.str p) [])=p.length+1:=by
 show (AV.str s::List.map AV.str p).length=_;simp
theorem drop1 {s:List UInt8} {p:List (List UInt8)}:List.drop ((defLen (AV.sl 1 (AV.str s::List.map AV.str p) []):Int)).toNat (AV.str s::(List.map AV.str p++[]))=[]:=by
 rw [List.append_nil];exact List.drop_length (l:=AV.str s::List.map AV.str p)
theorem take1 {p:List (List UInt8)}:List.take (List.map AV.str p).length (List.map AV.str p++[])=List.map AV.str p:=by rw [List.append_nil,List.take_length]
theorem all95 (W:World):∀ (n:Nat) (u:JV) (q:List (List UInt8)),stepsV u q<n->cntV u<=2 ^ 30->AllC W 45 u q
 | 0,u,q,h,_=>by omega
 | n+1,.mk h l,[],hn,hc=>by
  refine pure_leR ?_ (pure_frz1 (mut_of_sfun mixedz call95 rfl (n95_0 W h l) Fb6_z5) rfl (by rfl))
  rw [allV];exact .refl _
 | n+1,.mk h l,s::p,hn,hcn=>by
  have hcnl:=cntV_len (.mk h l)
  simp only [JV.names,JV.hd] at hcnl
  have hc1:=mut_of_pure (by rfl) (index91 W s)
  unfold AllC
  by_cases hki:h.kind=5/\idxOk s=false
  ·obtain ⟨hk,hx⟩:=hki
   have hb1:(!idxOk s)=true:=by rw [hx];rfl
   have hcl:cntVs l<=2 ^ 30:=by rw [cntV_eq] at hcn;simp only [JV.items] at hcn;omega
   have hlp:=loop95 W l s p hcl (fun x hx6 k6=>all95 W n x (s::p) (by have:=steps_obj (u:=.mk h l) (s:=s) (p:=p) hk k6;omega) (by
    obtain ⟨i,hi⟩:=List.getElem?_of_mem hx6
    have:=cntVs_get hi;omega)) 0 (by omega)
   rw [List.take_zero,List.flatMap_nil] at hlp
   rw [show allV (.mk h l) (s::p)=l.flatMap (pickV s p) from allV_list (v:=.mk h l) hk hx]
   have hm:=mut_of_sfun mixedz call95 rfl (l95_0 W h l s p (idx s) (idxOk s) (l.flatMap (pickV s p))) Fb6_z6
   exact pure_frz1 hm (by rw [encVs_len]) (encVs_clo _)
  ·have ha:=allV_one (v:=.mk h l) (s:=s) (p:=p) hki
   rw [ha]
   have hc2:MutC Tryz.prog W 76 [encV (.mk h l),.str s] [] (.ret (iA ((JV.mk h l).child s)) []):=mut_of_pure (by simp only [cloL,encV_clo];rfl) (child137 W h l s (by omega))
   by_cases hneg:(JV.mk h l).child s<0
   ·rw [oneV,if_pos hneg]
    by_cases hk:h.kind=5
    ·have hx:idxOk s=true:=by cases e:idxOk s with
      | true=>rfl
      | false=>exact absurd ⟨hk,e⟩ hki
     have hb1:(!idxOk s)=false:=by rw [hx];rfl
     exact pure_leR (.nil 5) (pure_of_mut rfl (mut_of_sfun mixedz call95 rfl (z95_1 W h l s p (idx s) ((JV.mk h l).child s) (idxOk s)) Fb6_z6))
    ·exact pure_leR (.nil 5) (pure_of_mut rfl (mut_of_sfun mixedz call95 rfl (z95_3 W h l s p (idx s) ((JV.mk h l).child s) (idxOk s)) Fb6_z6))
   ·obtain ⟨x,hx⟩:=child_get (j:=.mk h l) (s:=s) (by omega)
    rw [oneV,if_neg hneg,hx]
    have ih:=all95 W n x p (by have:=steps_tail (u:=.mk h l) (x:=x) (s:=s) (p:=p);omega) (by have:=cntV_item hx;omega)
    obtain ⟨h2,l2⟩:=x
    have hget:(encVs l)[((JV.mk h l).child s).toNat]?=some (encV (.mk h2 l2)):=encVs_get hx
    have hc3:MutC Tryz.prog W 45 [encV (.mk h2 l2),.sl 1 (List.take (List.map AV.str p).length (List.map AV.str p++[])) (List.drop ((defLen (AV.sl 1 (AV.str s::List.map AV.str p) []):Int)).toNat (AV.str s::(List.map AV.str p++[])))] [] (.ret (.sl 5 (encVs (allV (.mk h2 l2) p)) []) []):=by
     rw [drop1,take1];exact mut_of_pure (by simp only [cloL,encV_clo,Bool.and_self];rfl) ih
    by_cases hk:h.kind=5
    ·have hxx:idxOk s=true:=by cases e:idxOk s with
      | true=>rfl
      | false=>exact absurd ⟨hk,e⟩ hki
     have hb1:(!idxOk s)=false:=by rw [hxx];rfl
     exact pure_of_mut rfl (mut_of_sfun mixedz call95 rfl (p95_2 W h l s p (idx s) ((JV.mk h l).child s) (idxOk s) h2 l2 (allV (.mk h2 l2) p)) Fb6_z6)
    ·exact pure_of_mut rfl (mut_of_sfun mixedz call95 rfl (p95_4 W h l s p (idx s) ((JV.mk h l).child s) (idxOk s) h2 l2 (allV (.mk h2 l2) p)) Fb6_z6)
section
variable (W:World) (h:JH) (l:List JV) (s:List UInt8) (p:List (List UInt8))
end
theorem push1 (acc:List JV) (h:JH) (m:List JV):List.take acc.length (encVs acc)++[encV (.mk h m)]=encVs (acc++[.mk h m]):=encVs_push acc [.mk h m]
theorem push2 (acc:List JV) (h:JH) (m:List JV):List.take (acc.length+[encV (.mk h m)].length) (List.take acc.length (encVs acc)++[encV (.mk h m)])++encVs m=encVs (acc++(.mk h m::m)):=by
 rw [push1,show acc.length+[encV (.mk h m)].length=(acc++[JV.mk h m]).length by simp,encVs_push,List.append_assoc];rfl
section
variable (W:World) (l:List JV)
end
end Go.Ac

namespace Go.Ac
open Go Go.Proofs
set_option maxRecDepth 10000
set_option maxHeartbeats 1000000
theorem p79_0 (W:World) (a b:List (List UInt8)):sF W {lp:=true} 32 [.sl 1 (a.map AV.str) [],.sl 1 (b.map AV.str) []] [] 100000 [bt,ee] []=.ok (.ret (bA false) [],[ee],[(!decide ((↑(List.map AV.str a).length:Int)=(↑(List.map AV.str b).length:Int)))=true]):=kr
theorem call79:callable Tryz.prog 32=true:=kr
section
variable (W:World)
end
end Go.Ac

namespace Go.Ac
open Go Go.Proofs
set_option maxRecDepth 10000
set_option maxHeartbeats 1000000
theorem Fb8_z1 {kp f ph σ σ'} (h:MatchK kp f ph σ σ':=by exact ⟨by rfl,(by simp only [S123,E123,S124,E124,S129,S128,E128,Rv,H124,tOK,List.map_cons,List.map_nil,and_true]<;>exact zt),(by simp only [S123,E123,S124,E124,S129,S128,E128,Rv,H124,hOK,List.map_cons,List.map_nil,and_true]<;>exact zh),(by simp only [S123,E123,S124,E124,S129,S128,E128,Rv,H124,liveT,List.map_cons,List.map_nil,and_true]<;>exact zv),(by simp only [S123,E123,S124,E124,S129,S128,E128,Rv,H124,liveH,List.map_cons,List.map_nil,and_true]<;>exact zv)⟩):MatchK kp f ph σ σ':=h
theorem Fb8_z2 {cs} (h:Holds cs:=by simp only [Holds,and_true]<;>and_intros<;>first|exact zd):Holds cs:=h
theorem Fb8_z3 {cs} (h:Holds cs:=by simp only [Holds,and_true]<;>and_intros<;>first|exact zd|exact Fb8_z1):Holds cs:=h
def S123 (a b:List JV) (i:Nat):AS:=⟨[(0,.sl 5 (encVs a) []),(1,.sl 5 (encVs b) []),(2,.val (.func (.func 36) #[] #[])),(11,.sl 5 (encVs a) []),(12,iA a.length),(13,iA i)],[]⟩
def E123 (a b:List JV):AS:=⟨[(0,.sl 5 (encVs a) []),(1,.sl 5 (encVs b) [])],[]⟩
def H124 (h:JH) (l:List JV) (h2:JH) (l2:List JV):List (Nat×GE):=[(100000,.box (encV (.mk h l)) .own),(100001,.box (encV (.mk h2 l2)) .own)]
def S124 (h:JH) (l:List JV) (h2:JH) (l2:List JV) (n m k i:Nat):AS:=⟨[(2,.gp 100000 0),(3,.gp 100001 0),(5,iA n),(6,iA m),(26,iA k),(27,iA i)],H124 h l h2 l2⟩
def S129 (h:JH) (l:List JV) (h2:JH) (l2:List JV) (n m i:Nat):AS:=⟨[(2,.gp 100000 0),(3,.gp 100001 0),(5,iA n),(6,iA m),(7,iA i)],H124 h l h2 l2⟩
def E124 (n m:Nat):AS:=⟨[(5,iA n),(6,iA m)],[]⟩
def S128 (a b:List UInt8) (i:Nat):AS:=⟨[(0,.str a),(1,.str b),(5,iA i)],[]⟩
def E128 (a b:List UInt8):AS:=⟨[(0,.str a),(1,.str b)],[]⟩
def Rv (k:Nat) (v:Int):AS:=⟨[(k,iA v)],[]⟩
theorem p119_3 (W:World) (a b:Int):sF W {} 63 [iA a,iA b] [] 100000 [aE 2,bf,bf,bt,ee] []=.ok (.ret (iA (-1)) [],[ee],[decide (a<b)=true,(!decide (b=b))=false,(!decide (a=a))=false]):=kr
theorem p119_4 (W:World) (a b:Int):sF W {} 63 [iA a,iA b] [] 100000 [aE 2,bf,bf,bf,bt,ee] []=.ok (.ret (iA 1) [],[ee],[decide (b<a)=true,decide (a<b)=false,(!decide (b=b))=false,(!decide (a=a))=false]):=kr
theorem p119_5 (W:World) (a b:Int):sF W {} 63 [iA a,iA b] [] 100000 [aE 2,bf,bf,bf,bf,ee] []=.ok (.ret (iA 0) [],[ee],[decide (b<a)=false,decide (a<b)=false,(!decide (b=b))=false,(!decide (a=a))=false]):=kr
theorem p121_3 (W:World) (a b:Int):sF W {} 65 [iA a,iA b] [] 100000 [aE 2,bf,bf,bt,ee] []=.ok (.ret (iA (-1)) [],[ee],[decide (a<b)=true,(!decide (b=b))=false,(!decide (a=a))=false]):=kr
theorem p121_4 (W:World) (a b:Int):sF W {} 65 [iA a,iA b] [] 100000 [aE 2,bf,bf,bf,bt,ee] []=.ok (.ret (iA 1) [],[ee],[decide (b<a)=true,decide (a<b)=false,(!decide (b=b))=false,(!decide (a=a))=false]):=kr
theorem p121_5 (W:World) (a b:Int):sF W {} 65 [iA a,iA b] [] 100000 [aE 2,bf,bf,bf,bf,ee] []=.ok (.ret (iA 0) [],[ee],[decide (b<a)=false,decide (a<b)=false,(!decide (b=b))=false,(!decide (a=a))=false]):=kr
theorem p122_3 (W:World) (a b:List UInt8):sF W {} 66 [.str a,.str b] [] 100000 [aE 2,bf,bf,bt,ee] []=.ok (.ret (iA (-1)) [],[ee],[Op.bytesLess a b=true,(!decide (b=b))=false,(!decide (a=a))=false]):=kr
theorem p122_4 (W:World) (a b:List UInt8):sF W {} 66 [.str a,.str b] [] 100000 [aE 2,bf,bf,bf,bt,ee] []=.ok (.ret (iA 1) [],[ee],[(!(Op.bytesLess a b || decide (a=b)))=true,Op.bytesLess a b=false,(!decide (b=b))=false,(!decide (a=a))=false]):=kr
theorem p122_5 (W:World) (a b:List UInt8):sF W {} 66 [.str a,.str b] [] 100000 [aE 2,bf,bf,bf,bf,ee] []=.ok (.ret (iA 0) [],[ee],[(!(Op.bytesLess a b || decide (a=b)))=false,Op.bytesLess a b=false,(!decide (b=b))=false,(!decide (a=a))=false]):=kr
theorem p120_0 (W:World) (h:JH) (l:List JV):sF W {} 64 [eV h l] [] 100000 [bt,ee] []=.ok (.ret (iA 0) [],[ee],[decide (h.kind=0)=true]):=kr
theorem p120_1 (W:World) (h:JH) (l:List JV):sF W {} 64 [eV h l] [] 100000 [bf,bt,ee] []=.ok (.ret (iA 1) [],[ee],[decide (h.kind=3)=true,decide (h.kind=0)=false]):=kr
theorem p120_2 (W:World) (h:JH) (l:List JV):sF W {} 64 [eV h l] [] 100000 [bf,bf,bt,ee] []=.ok (.ret (iA 2) [],[ee],[decide (h.kind=4)=true,decide (h.kind=3)=false,decide (h.kind=0)=false]):=kr
theorem p120_3 (W:World) (h:JH) (l:List JV):sF W {} 64 [eV h l] [] 100000 [bf,bf,bf,bt,ee] []=.ok (.ret (iA 3) [],[ee],[decide (h.kind=6)=true,decide (h.kind=4)=false,decide (h.kind=3)=false,decide (h.kind=0)=false]):=kr
theorem p120_4 (W:World) (h:JH) (l:List JV):sF W {} 64 [eV h l] [] 100000 [bf,bf,bf,bf,bt,ee] []=.ok (.ret (iA 4) [],[ee],[decide (h.kind=5)=true,decide (h.kind=6)=false,decide (h.kind=4)=false,decide (h.kind=3)=false,decide (h.kind=0)=false]):=kr
theorem p120_5 (W:World) (h:JH) (l:List JV):sF W {} 64 [eV h l] [] 100000 [bf,bf,bf,bf,bf,bt,ee] []=.ok (.ret (iA 5) [],[ee],[decide (h.kind=1)=true,decide (h.kind=5)=false,decide (h.kind=6)=false,decide (h.kind=4)=false,decide (h.kind=3)=false,decide (h.kind=0)=false]):=kr
theorem p120_6 (W:World) (h:JH) (l:List JV):sF W {} 64 [eV h l] [] 100000 [bf,bf,bf,bf,bf,bf,bt,ee] []=.ok (.ret (iA 6) [],[ee],[decide (h.kind=2)=true,decide (h.kind=1)=false,decide (h.kind=5)=false,decide (h.kind=6)=false,decide (h.kind=4)=false,decide (h.kind=3)=false,decide (h.kind=0)=false]):=kr
theorem p120_7 (W:World) (h:JH) (l:List JV):sF W {} 64 [eV h l] [] 100000 [bf,bf,bf,bf,bf,bf,bf,ee] []=.ok (.ret (iA (-1)) [],[ee],[decide (h.kind=2)=false,decide (h.kind=1)=false,decide (h.kind=5)=false,decide (h.kind=6)=false,decide (h.kind=4)=false,decide (h.kind=3)=false,decide (h.kind=0)=false]):=kr
theorem p81_0 (W:World) (h:JH) (l:List JV) (h2:JH) (l2:List JV) (c:Int):sF W {lp:=true,tl:=[64,63,65,66,67,68]} 36 [eV h l,eV h2 l2] [] 100000 [ee,cR (iA (rankV h.kind)) [],ee,cR (iA (rankV h2.kind)) [],ee,cR (iA c) [],bt,ee] []=.ok (.ret (iA c) [],[ee],[(!decide (c=0))=true,MZ W 63 [iA (rankV h.kind),iA (rankV h2.kind)] [] (.ret (iA c) []),MZ W 64 [eV h2 l2] [] (.ret (iA (rankV h2.kind)) []),MZ W 64 [eV h l] [] (.ret (iA (rankV h.kind)) [])]):=kr
theorem p81_1 (W:World) (h:JH) (l:List JV) (h2:JH) (l2:List JV) (c d:Int):sF W {lp:=true,tl:=[64,63,65,66,67,68]} 36 [eV h l,eV h2 l2] [] 100000 [ee,cR (iA (rankV h.kind)) [],ee,cR (iA (rankV h2.kind)) [],ee,cR (iA c) [],bf,bt,ee,cR (iA d) [],ee] []=.ok (.ret (iA d) [],[ee],[MZ W 65 [iA h.int,iA h2.int] [] (.ret (iA d) []),decide (h.kind=3)=true,(!decide (c=0))=false,MZ W 63 [iA (rankV h.kind),iA (rankV h2.kind)] [] (.ret (iA c) []),MZ W 64 [eV h2 l2] [] (.ret (iA (rankV h2.kind)) []),MZ W 64 [eV h l] [] (.ret (iA (rankV h.kind)) [])]):=kr
theorem p81_2 (W:World) (h:JH) (l:List JV) (h2:JH) (l2:List JV) (c d:Int):sF W {lp:=true,tl:=[64,63,65,66,67,68]} 36 [eV h l,eV h2 l2] [] 100000 [ee,cR (iA (rankV h.kind)) [],ee,cR (iA (rankV h2.kind)) [],ee,cR (iA c) [],bf,bf,bt,ee,cR (iA d) [],ee] []=.ok (.ret (iA d) [],[ee],[MZ W 66 [.str h.3,.str h2.3] [] (.ret (iA d) []),decide (h.kind=4)=true,decide (h.kind=3)=false,(!decide (c=0))=false,MZ W 63 [iA (rankV h.kind),iA (rankV h2.kind)] [] (.ret (iA c) []),MZ W 64 [eV h2 l2] [] (.ret (iA (rankV h2.kind)) []),MZ W 64 [eV h l] [] (.ret (iA (rankV h.kind)) [])]):=kr
theorem p81_3 (W:World) (h:JH) (l:List JV) (h2:JH) (l2:List JV) (c d:Int):sF W {lp:=true,tl:=[64,63,65,66,67,68]} 36 [eV h l,eV h2 l2] [] 100000 [ee,cR (iA (rankV h.kind)) [],ee,cR (iA (rankV h2.kind)) [],ee,cR (iA c) [],bf,bf,bf,bt,ee,cR (iA d) [],ee] []=.ok (.ret (iA d) [],[ee],[MZ W 67 [sL 5 (encVs l),sL 5 (encVs l2),.val (Value.func (Fn.func 36) #[] #[])] [] (.ret (iA d) []),decide (h.kind=5)=true,decide (h.kind=4)=false,decide (h.kind=3)=false,(!decide (c=0))=false,MZ W 63 [iA (rankV h.kind),iA (rankV h2.kind)] [] (.ret (iA c) []),MZ W 64 [eV h2 l2] [] (.ret (iA (rankV h2.kind)) []),MZ W 64 [eV h l] [] (.ret (iA (rankV h.kind)) [])]):=kr
theorem p81_4 (W:World) (h:JH) (l:List JV) (h2:JH) (l2:List JV) (c d:Int):sF W {lp:=true,tl:=[64,63,65,66,67,68]} 36 [eV h l,eV h2 l2] [] 100000 [ee,cR (iA (rankV h.kind)) [],ee,cR (iA (rankV h2.kind)) [],ee,cR (iA c) [],bf,bf,bf,bf,bt,ee,cR (iA d) [],ee] []=.ok (.ret (iA d) [],[ee],[MZ W 68 [eV h l,eV h2 l2] [] (.ret (iA d) []),decide (h.kind=6)=true,decide (h.kind=5)=false,decide (h.kind=4)=false,decide (h.kind=3)=false,(!decide (c=0))=false,MZ W 63 [iA (rankV h.kind),iA (rankV h2.kind)] [] (.ret (iA c) []),MZ W 64 [eV h2 l2] [] (.ret (iA (rankV h2.kind)) []),MZ W 64 [eV h l] [] (.ret (iA (rankV h.kind)) [])]):=kr
theorem p81_5 (W:World) (h:JH) (l:List JV) (h2:JH) (l2:List JV) (c:Int):sF W {lp:=true,tl:=[64,63,65,66,67,68]} 36 [eV h l,eV h2 l2] [] 100000 [ee,cR (iA (rankV h.kind)) [],ee,cR (iA (rankV h2.kind)) [],ee,cR (iA c) [],bf,bf,bf,bf,bf,ee] []=.ok (.ret (iA 0) [],[ee],[decide (h.kind=6)=false,decide (h.kind=5)=false,decide (h.kind=4)=false,decide (h.kind=3)=false,(!decide (c=0))=false,MZ W 63 [iA (rankV h.kind),iA (rankV h2.kind)] [] (.ret (iA c) []),MZ W 64 [eV h2 l2] [] (.ret (iA (rankV h2.kind)) []),MZ W 64 [eV h l] [] (.ret (iA (rankV h.kind)) [])]):=kr
theorem b123_0 (W:World) (a b:List JV) (i:Nat) (h:JH) (l:List JV):sbodyM Tryz.prog W {lp:=true,tl:=[36]} 67 0 [] (S123 a b i) [bt,aE 1,oS (eV h l),bt,ee]=.ok ((.ret,{t:=[(0,sL 5 (encVs a)),(1,sL 5 (encVs b)),(2,.val (Value.func (Fn.func 36) #[] #[])),(6,iA 1),(7,iA (i:Int)),(8,.gp 100000 0),(11,sL 5 (encVs a)),(12,iA (a.length:Int)),(13,iA (i:Int)),(14,bA (decide ((i:Int)<(a.length:Int)))),(15,iA (i:Int)),(16,(eV h l).ip 0),(17,eV h l),(18,iA (i:Int)),(19,sL 5 (encVs b)),(20,iA (↑(encVs b).length:Int)),(21,bA (decide ((↑(encVs b).length:Int)<=(i:Int))))],h:=[(100000,gB (eV h l))]}),[ee],[decide ((↑(encVs b).length:Int)<=(i:Int))=true,(encVs a)[(i:Int).toNat]?=some (eV h l),decide ((i:Int)<(a.length:Int))=true]):=kr
theorem b123_1 (W:World) (a b:List JV) (i:Nat) (h:JH) (l:List JV) (h2:JH) (l2:List JV) (d:Int):sbodyM Tryz.prog W {lp:=true,tl:=[36]} 67 0 [] (S123 a b i) [bt,aE 1,oS (eV h l),bf,aE 1,oS (eV h2 l2),ee,cR (iA d) [],bt,ee]=.ok ((.ret,{t:=[(0,sL 5 (encVs a)),(1,sL 5 (encVs b)),(2,.val (Value.func (Fn.func 36) #[] #[])),(6,iA d),(7,iA (i:Int)),(8,.gp 100000 0),(9,.gp 100001 0),(10,iA d),(11,sL 5 (encVs a)),(12,iA (a.length:Int)),(13,iA (i:Int)),(14,bA (decide ((i:Int)<(a.length:Int)))),(15,iA (i:Int)),(16,(eV h l).ip 0),(17,eV h l),(18,iA (i:Int)),(19,sL 5 (encVs b)),(20,iA (↑(encVs b).length:Int)),(21,bA (decide ((↑(encVs b).length:Int)<=(i:Int)))),(22,sL 5 (encVs b)),(23,iA (i:Int)),(24,(eV h2 l2).ip 0),(25,eV h2 l2),(26,.val (Value.func (Fn.func 36) #[] #[])),(27,eV h l),(28,eV h2 l2),(29,iA d),(30,iA d),(31,bA (!decide (d=0))),(32,iA d)],h:=[(100000,gB (eV h l)),(100001,gB (eV h2 l2))]}),[ee],[(!decide (d=0))=true,MZ W 36 [eV h l,eV h2 l2] [] (.ret (iA d) []),(encVs b)[(i:Int).toNat]?=some (eV h2 l2),decide ((↑(encVs b).length:Int)<=(i:Int))=false,(encVs a)[(i:Int).toNat]?=some (eV h l),decide ((i:Int)<(a.length:Int))=true]):=kr
theorem b123_2 (W:World) (a b:List JV) (i:Nat) (h:JH) (l:List JV) (h2:JH) (l2:List JV) (d:Int):sQ W {lp:=true,tl:=[36]} 67 0 [] [0,1,2,11,12,13] (S123 a b i) [bt,aE 1,oS (eV h l),bf,aE 1,oS (eV h2 l2),ee,cR (iA d) [],bf,ee]=.ok ((.normal,{t:=[(0,sL 5 (encVs a)),(1,sL 5 (encVs b)),(2,.val (Value.func (Fn.func 36) #[] #[])),(11,sL 5 (encVs a)),(12,iA (a.length:Int)),(13,iA (IntKind.i64.wrap ((i:Int)+1)))],h:=[(100000,gB (eV h l)),(100001,gB (eV h2 l2))]}),[ee],[(!decide (d=0))=false,MZ W 36 [eV h l,eV h2 l2] [] (.ret (iA d) []),(encVs b)[(i:Int).toNat]?=some (eV h2 l2),decide ((↑(encVs b).length:Int)<=(i:Int))=false,(encVs a)[(i:Int).toNat]?=some (eV h l),decide ((i:Int)<(a.length:Int))=true]):=kr
theorem b123_3 (W:World) (a b:List JV) (i:Nat) (h:JH):sbodyM Tryz.prog W {lp:=true,tl:=[36]} 67 0 [] (S123 a b i) [bf,ee]=.ok ((.exit 0,{t:=[(0,sL 5 (encVs a)),(1,sL 5 (encVs b)),(2,.val (Value.func (Fn.func 36) #[] #[])),(11,sL 5 (encVs a)),(12,iA (a.length:Int)),(13,iA (i:Int)),(14,bA (decide ((i:Int)<(a.length:Int))))],h:=[]}),[ee],[decide ((i:Int)<(a.length:Int))=false]):=kr
theorem p123_0 (W:World) (a b:List JV) (d:Int):sF W {lp:=true} 67 [.sl 5 (encVs a) [],.sl 5 (encVs b) [],.val (.func (.func 36) #[] #[])] [] 100000 [ee,.loopM [] [] (S123 a b 0) .ret (Rv 6 d),ee] []=.ok (.ret (iA d) [],[ee],[LZ W [] 67 0 (S123 a b 0) .ret (Rv 6 d),MatchK [] [] [] {t:=[(0,sL 5 (encVs a)),(1,sL 5 (encVs b)),(2,.val (Value.func (Fn.func 36) #[] #[])),(11,sL 5 (encVs a)),(12,iA (↑(encVs a).length:Int)),(13,iA 0)],h:=[]} (S123 a b 0)]):=kr
theorem q123_0 (W:World) (a b:List JV):sF W {lp:=true} 67 [.sl 5 (encVs a) [],.sl 5 (encVs b) [],.val (.func (.func 36) #[] #[])] [] 100000 [ee,.loopM [] [] (S123 a b 0) (.exit 0) (E123 a b),bt,ee] []=.ok (.ret (iA (-1)) [],[ee],[decide ((↑(encVs a).length:Int)<(↑(encVs b).length:Int))=true,LZ W [] 67 0 (S123 a b 0) (.exit 0) (E123 a b),MatchK [] [] [] {t:=[(0,sL 5 (encVs a)),(1,sL 5 (encVs b)),(2,.val (Value.func (Fn.func 36) #[] #[])),(11,sL 5 (encVs a)),(12,iA (↑(encVs a).length:Int)),(13,iA 0)],h:=[]} (S123 a b 0)]):=kr
theorem q123_1 (W:World) (a b:List JV):sF W {lp:=true} 67 [.sl 5 (encVs a) [],.sl 5 (encVs b) [],.val (.func (.func 36) #[] #[])] [] 100000 [ee,.loopM [] [] (S123 a b 0) (.exit 0) (E123 a b),bf,ee] []=.ok (.ret (iA 0) [],[ee],[decide ((↑(encVs a).length:Int)<(↑(encVs b).length:Int))=false,LZ W [] 67 0 (S123 a b 0) (.exit 0) (E123 a b),MatchK [] [] [] {t:=[(0,sL 5 (encVs a)),(1,sL 5 (encVs b)),(2,.val (Value.func (Fn.func 36) #[] #[])),(11,sL 5 (encVs a)),(12,iA (↑(encVs a).length:Int)),(13,iA 0)],h:=[]} (S123 a b 0)]):=kr
theorem b124_0 (W:World) (h:JH) (l:List JV) (h2:JH) (l2:List JV) (n m k i:Nat) (x y:List UInt8) (c:Int):sbodyM Tryz.prog W {lp:=true,tl:=[66,36]} 68 0 [] (S124 h l h2 l2 n m k i) [bt,aE 1,oS (.str x),aE 1,oS (.str y),ee,cR (iA c) [],bt,ee]=.ok ((.ret,{t:=[(2,.gp 100000 0),(3,.gp 100001 0),(4,iA c),(5,iA (n:Int)),(6,iA (m:Int)),(7,iA (i:Int)),(8,iA c),(26,iA (k:Int)),(27,iA (i:Int)),(28,bA (decide ((i:Int)<(k:Int)))),(29,iA (i:Int)),(30,.gp 100000 3),(31,sL 1 (List.map AV.str h.names)),(32,iA (i:Int)),(33,(AV.str x).ip 0),(34,.str x),(35,.gp 100001 3),(36,sL 1 (List.map AV.str h2.names)),(37,iA (i:Int)),(38,(AV.str y).ip 0),(39,.str y),(40,iA c),(41,iA c),(42,bA (!decide (c=0))),(43,iA c)],h:=[(100000,gB (eV h l)),(100001,gB (eV h2 l2))]}),[ee],[(!decide (c=0))=true,MZ W 66 [.str x,.str y] [] (.ret (iA c) []),(List.map AV.str h2.names)[(i:Int).toNat]?=some (AV.str y),(List.map AV.str h.names)[(i:Int).toNat]?=some (AV.str x),decide ((i:Int)<(k:Int))=true]):=kr
theorem b124_1 (W:World) (h:JH) (l:List JV) (h2:JH) (l2:List JV) (n m k i:Nat) (x y:List UInt8) (h3:JH) (l3:List JV) (h4:JH) (l4:List JV) (c d:Int):sbodyM Tryz.prog W {lp:=true,tl:=[66,36]} 68 0 [] (S124 h l h2 l2 n m k i) [bt,aE 1,oS (.str x),aE 1,oS (.str y),ee,cR (iA c) [],bf,aE 1,oS (eV h3 l3),aE 1,oS (eV h4 l4),ee,cR (iA d) [],bt,ee]=.ok ((.ret,{t:=[(2,.gp 100000 0),(3,.gp 100001 0),(4,iA d),(5,iA (n:Int)),(6,iA (m:Int)),(7,iA (i:Int)),(8,iA c),(9,iA d),(26,iA (k:Int)),(27,iA (i:Int)),(28,bA (decide ((i:Int)<(k:Int)))),(29,iA (i:Int)),(30,.gp 100000 3),(31,sL 1 (List.map AV.str h.names)),(32,iA (i:Int)),(33,(AV.str x).ip 0),(34,.str x),(35,.gp 100001 3),(36,sL 1 (List.map AV.str h2.names)),(37,iA (i:Int)),(38,(AV.str y).ip 0),(39,.str y),(40,iA c),(41,iA c),(42,bA (!decide (c=0))),(44,.gp 100000 4),(45,sL 5 (encVs l)),(46,iA (i:Int)),(47,(eV h3 l3).ip 0),(48,eV h3 l3),(49,.gp 100001 4),(50,sL 5 (encVs l2)),(51,iA (i:Int)),(52,(eV h4 l4).ip 0),(53,eV h4 l4),(54,iA d),(55,iA d),(56,bA (!decide (d=0))),(57,iA d)],h:=[(100000,gB (eV h l)),(100001,gB (eV h2 l2))]}),[ee],[(!decide (d=0))=true,MZ W 36 [eV h3 l3,eV h4 l4] [] (.ret (iA d) []),(encVs l2)[(i:Int).toNat]?=some (eV h4 l4),(encVs l)[(i:Int).toNat]?=some (eV h3 l3),(!decide (c=0))=false,MZ W 66 [.str x,.str y] [] (.ret (iA c) []),(List.map AV.str h2.names)[(i:Int).toNat]?=some (AV.str y),(List.map AV.str h.names)[(i:Int).toNat]?=some (AV.str x),decide ((i:Int)<(k:Int))=true]):=kr
theorem b124_2 (W:World) (h:JH) (l:List JV) (h2:JH) (l2:List JV) (n m k i:Nat) (x y:List UInt8) (h3:JH) (l3:List JV) (h4:JH) (l4:List JV) (c d:Int):sQ W {lp:=true,tl:=[66,36]} 68 0 [] [2,3,5,6,26,27] (S124 h l h2 l2 n m k i) [bt,aE 1,oS (.str x),aE 1,oS (.str y),ee,cR (iA c) [],bf,aE 1,oS (eV h3 l3),aE 1,oS (eV h4 l4),ee,cR (iA d) [],bf,ee]=.ok ((.normal,{t:=[(2,.gp 100000 0),(3,.gp 100001 0),(5,iA (n:Int)),(6,iA (m:Int)),(26,iA (k:Int)),(27,iA (IntKind.i64.wrap ((i:Int)+1)))],h:=[(100000,gB (eV h l)),(100001,gB (eV h2 l2))]}),[ee],[(!decide (d=0))=false,MZ W 36 [eV h3 l3,eV h4 l4] [] (.ret (iA d) []),(encVs l2)[(i:Int).toNat]?=some (eV h4 l4),(encVs l)[(i:Int).toNat]?=some (eV h3 l3),(!decide (c=0))=false,MZ W 66 [.str x,.str y] [] (.ret (iA c) []),(List.map AV.str h2.names)[(i:Int).toNat]?=some (AV.str y),(List.map AV.str h.names)[(i:Int).toNat]?=some (AV.str x),decide ((i:Int)<(k:Int))=true]):=kr
theorem b124_3 (W:World) (h:JH) (l:List JV) (h2:JH) (l2:List JV) (n m k i:Nat):sbodyM Tryz.prog W {lp:=true,tl:=[66,36]} 68 0 [] (S124 h l h2 l2 n m k i) [bf,ee]=.ok ((.exit 0,{t:=[(2,.gp 100000 0),(3,.gp 100001 0),(5,iA (n:Int)),(6,iA (m:Int)),(26,iA (k:Int)),(27,iA (i:Int)),(28,bA (decide ((i:Int)<(k:Int))))],h:=[(100000,gB (eV h l)),(100001,gB (eV h2 l2))]}),[ee],[decide ((i:Int)<(k:Int))=false]):=kr
theorem p124_0 (W:World) (h:JH) (l:List JV) (h2:JH) (l2:List JV) (n m k:Nat) (d:Int):sF W {lp:=true,tl:=[63]} 68 [eV h l,eV h2 l2] [] 100000 [ee,.loopM [] [] (S124 h l h2 l2 n m k 0) .ret (Rv 4 d),ee] []=.ok (.ret (iA d) [],[ee],[LZ W [] 68 0 (S124 h l h2 l2 n m k 0) .ret (Rv 4 d),MatchK [] [] [] {t:=[(2,.gp 100000 0),(3,.gp 100001 0),(5,iA (if (↑(encVs l).length:Int)<(↑(List.map AV.str h.names).length:Int) then (↑(encVs l).length:Int) else (↑(List.map AV.str h.names).length:Int))),(6,iA (if (↑(encVs l2).length:Int)<(↑(List.map AV.str h2.names).length:Int) then (↑(encVs l2).length:Int) else (↑(List.map AV.str h2.names).length:Int))),(26,iA (if (if (↑(encVs l2).length:Int)<(↑(List.map AV.str h2.names).length:Int) then (↑(encVs l2).length:Int) else (↑(List.map AV.str h2.names).length:Int))<if (↑(encVs l).length:Int)<(↑(List.map AV.str h.names).length:Int) then (↑(encVs l).length:Int) else (↑(List.map AV.str h.names).length:Int) then if (↑(encVs l2).length:Int)<(↑(List.map AV.str h2.names).length:Int) then (↑(encVs l2).length:Int) else (↑(List.map AV.str h2.names).length:Int) else if (↑(encVs l).length:Int)<(↑(List.map AV.str h.names).length:Int) then (↑(encVs l).length:Int) else (↑(List.map AV.str h.names).length:Int))),(27,iA 0)],h:=[(100000,gB (eV h l)),(100001,gB (eV h2 l2))]} (S124 h l h2 l2 n m k 0)]):=kr
theorem q124_0 (W:World) (h:JH) (l:List JV) (h2:JH) (l2:List JV) (n m k:Nat) (d:Int):sF W {lp:=true,tl:=[63]} 68 [eV h l,eV h2 l2] [] 100000 [ee,.loopM [] [] (S124 h l h2 l2 n m k 0) (.exit 0) (E124 n m),ee,cR (iA d) [],ee] []=.ok (.ret (iA d) [],[ee],[MZ W 63 [iA (n:Int),iA (m:Int)] [] (.ret (iA d) []),LZ W [] 68 0 (S124 h l h2 l2 n m k 0) (.exit 0) (E124 n m),MatchK [] [] [] {t:=[(2,.gp 100000 0),(3,.gp 100001 0),(5,iA (if (↑(encVs l).length:Int)<(↑(List.map AV.str h.names).length:Int) then (↑(encVs l).length:Int) else (↑(List.map AV.str h.names).length:Int))),(6,iA (if (↑(encVs l2).length:Int)<(↑(List.map AV.str h2.names).length:Int) then (↑(encVs l2).length:Int) else (↑(List.map AV.str h2.names).length:Int))),(26,iA (if (if (↑(encVs l2).length:Int)<(↑(List.map AV.str h2.names).length:Int) then (↑(encVs l2).length:Int) else (↑(List.map AV.str h2.names).length:Int))<if (↑(encVs l).length:Int)<(↑(List.map AV.str h.names).length:Int) then (↑(encVs l).length:Int) else (↑(List.map AV.str h.names).length:Int) then if (↑(encVs l2).length:Int)<(↑(List.map AV.str h2.names).length:Int) then (↑(encVs l2).length:Int) else (↑(List.map AV.str h2.names).length:Int) else if (↑(encVs l).length:Int)<(↑(List.map AV.str h.names).length:Int) then (↑(encVs l).length:Int) else (↑(List.map AV.str h.names).length:Int))),(27,iA 0)],h:=[(100000,gB (eV h l)),(100001,gB (eV h2 l2))]} (S124 h l h2 l2 n m k 0)]):=kr
theorem call119:callable Tryz.prog 63=true:=kr
theorem call121:callable Tryz.prog 65=true:=kr
theorem call122:callable Tryz.prog 66=true:=kr
theorem call120:callable Tryz.prog 64=true:=kr
theorem call81:callable Tryz.prog 36=true:=kr
theorem call123:callable Tryz.prog 67=true:=kr
theorem call124:callable Tryz.prog 68=true:=kr
theorem ints119 (W:World) (a b:Int):Pure Tryz.prog W 63 [iA a,iA b] (iA (cmpI a b)):=by
 have hs1:(!decide (a=a))=false:=by simp
 have hs2:(!decide (b=b))=false:=by simp
 by_cases h1:a<b
 ·exact goB (by unfold cmpI;rw [if_pos h1]<;>rfl) rfl (mut_of_sfun mixedz call119 rfl (p119_3 W a b) Fb8_z2)
 by_cases h2:b<a
 ·exact goB (by unfold cmpI;rw [if_neg h1,if_pos h2]<;>rfl) rfl (mut_of_sfun mixedz call119 rfl (p119_4 W a b) Fb8_z2)
 ·exact goB (by unfold cmpI;rw [if_neg h1,if_neg h2]<;>rfl) rfl (mut_of_sfun mixedz call119 rfl (p119_5 W a b) Fb8_z2)
theorem ints121 (W:World) (a b:Int):Pure Tryz.prog W 65 [iA a,iA b] (iA (cmpI a b)):=by
 have hs1:(!decide (a=a))=false:=by simp
 have hs2:(!decide (b=b))=false:=by simp
 by_cases h1:a<b
 ·exact goB (by unfold cmpI;rw [if_pos h1]<;>rfl) rfl (mut_of_sfun mixedz call121 rfl (p121_3 W a b) Fb8_z2)
 by_cases h2:b<a
 ·exact goB (by unfold cmpI;rw [if_neg h1,if_pos h2]<;>rfl) rfl (mut_of_sfun mixedz call121 rfl (p121_4 W a b) Fb8_z2)
 ·exact goB (by unfold cmpI;rw [if_neg h1,if_neg h2]<;>rfl) rfl (mut_of_sfun mixedz call121 rfl (p121_5 W a b) Fb8_z2)
theorem rank120 (W:World) (h:JH) (l:List JV):Pure Tryz.prog W 64 [encV (.mk h l)] (iA (rankV h.kind)):=by
 by_cases k0:h.kind=0
 case pos=>exact goB (by rw [show rankV h.kind=0 by unfold rankV;rw [if_pos k0]]<;>rfl) rfl (mut_of_sfun mixedz call120 rfl (p120_0 W h l) Fb8_z2)
 by_cases k3:h.kind=3
 case pos=>exact goB (by rw [show rankV h.kind=1 by unfold rankV;rw [if_neg k0,if_pos k3]]<;>rfl) rfl (mut_of_sfun mixedz call120 rfl (p120_1 W h l) Fb8_z2)
 by_cases k4:h.kind=4
 case pos=>exact goB (by rw [show rankV h.kind=2 by unfold rankV;rw [if_neg k0,if_neg k3,if_pos k4]]<;>rfl) rfl (mut_of_sfun mixedz call120 rfl (p120_2 W h l) Fb8_z2)
 by_cases k6:h.kind=6
 case pos=>exact goB (by rw [show rankV h.kind=3 by unfold rankV;rw [if_neg k0,if_neg k3,if_neg k4,if_pos k6]]<;>rfl) rfl (mut_of_sfun mixedz call120 rfl (p120_3 W h l) Fb8_z2)
 by_cases k5:h.kind=5
 case pos=>exact goB (by rw [show rankV h.kind=4 by unfold rankV;rw [if_neg k0,if_neg k3,if_neg k4,if_neg k6,if_pos k5]]<;>rfl) rfl (mut_of_sfun mixedz call120 rfl (p120_4 W h l) Fb8_z2)
 by_cases k1:h.kind=1
 case pos=>exact goB (by rw [show rankV h.kind=5 by unfold rankV;rw [if_neg k0,if_neg k3,if_neg k4,if_neg k6,if_neg k5,if_pos k1]]<;>rfl) rfl (mut_of_sfun mixedz call120 rfl (p120_5 W h l) Fb8_z2)
 by_cases k2:h.kind=2
 case pos=>exact goB (by rw [show rankV h.kind=6 by unfold rankV;rw [if_neg k0,if_neg k3,if_neg k4,if_neg k6,if_neg k5,if_neg k1,if_pos k2]]<;>rfl) rfl (mut_of_sfun mixedz call120 rfl (p120_6 W h l) Fb8_z2)
 exact goB (by rw [show rankV h.kind=-1 by unfold rankV;rw [if_neg k0,if_neg k3,if_neg k4,if_neg k6,if_neg k5,if_neg k1,if_neg k2]]<;>rfl) rfl (mut_of_sfun mixedz call120 rfl (p120_7 W h l) Fb8_z2)
theorem cmpB_cons (x y:UInt8) (a b:List UInt8):Lib.compareBytes (x::a) (y::b)=if x<y then -1 else if y<x then 1 else Lib.compareBytes a b:=by rw [Lib.compareBytes]
theorem cmpB_less:∀ a b:List UInt8,(Op.bytesLess a b=true ↔ Lib.compareBytes a b=-1)/\(Lib.compareBytes a b=0 ↔ a=b)/\(Lib.compareBytes a b=-1\/Lib.compareBytes a b=0\/Lib.compareBytes a b=1)
 | [],[]=>by simp [Op.bytesLess,Lib.compareBytes]
 | [],y::b=>by simp [Op.bytesLess,Lib.compareBytes]
 | x::a,[]=>by simp [Op.bytesLess,Lib.compareBytes]
 | x::a,y::b=>by
  obtain ⟨i1,i2,i3⟩:=cmpB_less a b
  rw [cmpB_cons]
  by_cases h1:x<y
  ·have hne:¬ x=y:=by rintro rfl;exact absurd h1 (UInt8.lt_irrefl x)
   simp [Op.bytesLess,h1,hne]
  by_cases h2:y<x
  ·have hne:¬ x=y:=by rintro rfl;exact absurd h2 (UInt8.lt_irrefl x)
   simp [Op.bytesLess,h1,h2,hne]
  ·have he:x=y:=UInt8.le_antisymm (UInt8.not_lt.1 h2) (UInt8.not_lt.1 h1)
   subst he
   rw [if_neg h1,if_neg h2]
   exact ⟨by simp [Op.bytesLess,i1],by simp [i2],i3⟩
theorem str122 (W:World) (a b:List UInt8):Pure Tryz.prog W 66 [.str a,.str b] (iA (Lib.compareBytes a b)):=by
 have hs1:(!decide (a=a))=false:=by simp
 have hs2:(!decide (b=b))=false:=by simp
 obtain ⟨i1,i2,i3⟩:=cmpB_less a b
 by_cases h1:Op.bytesLess a b=true
 ·exact goB (by rw [i1.1 h1]<;>rfl) rfl (mut_of_sfun mixedz call122 rfl (p122_3 W a b) Fb8_z2)
 have h1':Op.bytesLess a b=false:=by simpa using h1
 have hne:¬ Lib.compareBytes a b=-1:=fun e=>h1 (i1.2 e)
 by_cases h2:a=b
 ·have hb1:(!(Op.bytesLess a b || decide (a=b)))=false:=by simp [h2]
  exact goB (by rw [i2.2 h2]<;>rfl) rfl (mut_of_sfun mixedz call122 rfl (p122_5 W a b) Fb8_z2)
 ·have hb1:(!(Op.bytesLess a b || decide (a=b)))=true:=by simp [h1',h2]
  have h0:¬ Lib.compareBytes a b=0:=fun e=>h2 (i2.1 e)
  exact goB (by rw [show Lib.compareBytes a b=1 by omega]<;>rfl) rfl (mut_of_sfun mixedz call122 rfl (p122_4 W a b) Fb8_z2)
theorem cmpLs_end (f:JV->JV->Int) {a b:List JV} {i:Nat} (h1:i<=a.length) (h2:i<=b.length) (h:i=a.length\/i=b.length):cmpLs f (a.drop i) (b.drop i)=cmpI a.length b.length:=by
 rcases h with h|h
 ·rw [h,List.drop_length]
  unfold cmpI
  cases e:b.drop a.length with
  | nil=>have:=congrArg List.length e;simp only [List.length_drop,List.length_nil] at this;rw [if_neg (by omega),if_neg (by omega)];rfl
  | cons y r=>have:=congrArg List.length e;simp only [List.length_drop,List.length_cons] at this;rw [if_pos (by omega)];rfl
 ·rw [h,List.drop_length]
  unfold cmpI
  cases e:a.drop b.length with
  | nil=>have:=congrArg List.length e;simp only [List.length_drop,List.length_nil] at this;rw [if_neg (by omega),if_neg (by omega)];rfl
  | cons y r=>have:=congrArg List.length e;simp only [List.length_drop,List.length_cons] at this;rw [if_neg (by omega),if_pos (by omega)];rfl
theorem cmpMs_end (f:JV->JV->Int) {a b:List (List UInt8×JV)} {i:Nat} (h1:i<=a.length) (h2:i<=b.length) (h:i=a.length\/i=b.length):cmpMs f (a.drop i) (b.drop i)=cmpI a.length b.length:=by
 rcases h with h|h
 ·rw [h,List.drop_length]
  unfold cmpI
  cases e:b.drop a.length with
  | nil=>have:=congrArg List.length e;simp only [List.length_drop,List.length_nil] at this;rw [if_neg (by omega),if_neg (by omega)];rfl
  | cons y r=>have:=congrArg List.length e;simp only [List.length_drop,List.length_cons] at this;rw [if_pos (by omega)];rfl
 ·rw [h,List.drop_length]
  unfold cmpI
  cases e:a.drop b.length with
  | nil=>have:=congrArg List.length e;simp only [List.length_drop,List.length_nil] at this;rw [if_neg (by omega),if_neg (by omega)];rfl
  | cons y r=>have:=congrArg List.length e;simp only [List.length_drop,List.length_cons] at this;rw [if_neg (by omega),if_pos (by omega)];rfl
theorem cmpLs_step (f:JV->JV->Int) {a b:List JV} {i:Nat} {x y:JV} (hx:a[i]?=some x) (hy:b[i]?=some y):cmpLs f (a.drop i) (b.drop i)=if f x y=0 then cmpLs f (a.drop (i+1)) (b.drop (i+1)) else f x y:=by
 rw [drop_get hx,drop_get hy,cmpLs]
theorem cmpMs_step (f:JV->JV->Int) {a b:List (List UInt8×JV)} {i:Nat} {x y:List UInt8} {v w:JV} (hx:a[i]?=some (x,v)) (hy:b[i]?=some (y,w)):cmpMs f (a.drop i) (b.drop i)=if Lib.compareBytes x y=0 then (if f v w=0 then cmpMs f (a.drop (i+1)) (b.drop (i+1)) else f v w) else Lib.compareBytes x y:=by
 rw [drop_get hx,drop_get hy,cmpMs]
theorem mems_at {v:JV} {i:Nat} {x:List UInt8} {w:JV} (h1:v.names[i]?=some x) (h2:v.items[i]?=some w):v.mems[i]?=some (x,w):=by
 unfold JV.mems;rw [List.getElem?_zip_eq_some];exact ⟨h1,h2⟩
section
variable (W:World)
theorem loop123 (f:JV->JV->Int) (a b:List JV) (hl:a.length<=2 ^ 50) (hf:∀ x ∈ a,∀ y,Pure Tryz.prog W 36 [encV x,encV y] (iA (f x y))):∀ (k i:Nat),a.length - i=k->i<=a.length->i<=b.length →
 (LoopC Tryz.prog W [] (nslots Tryz.prog 67) (loopOf Tryz.prog 67 0) (S123 a b i) .ret (Rv 6 (cmpLs f (a.drop i) (b.drop i)))) ∨
 (LoopC Tryz.prog W [] (nslots Tryz.prog 67) (loopOf Tryz.prog 67 0) (S123 a b i) (.exit 0) (E123 a b)/\a.length<=b.length/\cmpLs f (a.drop i) (b.drop i)=cmpI a.length b.length):=by
 intro k
 induction k with
 | zero =>
  intro i hk h1 h2
  have hi:i=a.length:=by omega
  exact .inr ⟨loop_last (by simp) (body_of_sbodyM mixedz (b123_3 W a b i ⟨0,0,[],[]⟩) Fb8_z2 [] [] Fb8_z1),by omega,cmpLs_end f h1 h2 (.inl hi)⟩
 | succ k ih =>
  intro i hk h1 h2
  obtain ⟨x,hx⟩:=getOf (l:=a) (i:=i) (by omega)
  have hget:(encVs a)[((i:Int)).toNat]?=some (encV x):=by rw [Int.toNat_natCast];exact encVs_get hx
  by_cases hb:i<b.length
  case neg =>
   rw [cmpLs_end f h1 h2 (.inr (by omega)),cmpI,if_neg (by omega),if_pos (by omega)]
   obtain ⟨h3,l3⟩:=x
   exact .inl (loop_last (by simp) (body_of_sbodyM mixedz (b123_0 W a b i h3 l3) Fb8_z2 [] [] Fb8_z1))
  obtain ⟨y,hy⟩:=getOf hb
  have hget2:(encVs b)[((i:Int)).toNat]?=some (encV y):=by rw [Int.toNat_natCast];exact encVs_get hy
  have hws:IntKind.i64.wrap ((i:Int)+1)=((i+1:Nat):Int):=wrap_succ (by omega)
  have hc:=mut_of_pure (by simp only [cloL,encV_clo,Bool.and_self]) (hf x (List.mem_of_getElem? hx) y)
  rw [cmpLs_step f hx hy]
  by_cases e:f x y=0
  ·rw [if_pos e]
   have hb1:(!decide (f x y=0))=false:=by simp [e]
   have hbd:BodyC Tryz.prog W [] (nslots Tryz.prog 67) (loopOf Tryz.prog 67 0) (S123 a b i) .normal (S123 a b (i+1:Nat)):=by
    obtain ⟨h3,l3⟩:=x
    obtain ⟨h4,l4⟩:=y
    exact body_of_sbodyK mixedz (b123_2 W a b i h3 l3 h4 l4 _) Fb8_z2 [] [] Fb8_z1
   rcases ih (i+1) (by omega) (by omega) (by omega) with h|⟨h,h'⟩
   ·exact .inl (loop_next hbd h)
   ·exact .inr ⟨loop_next hbd h,h'⟩
  ·rw [if_neg e]
   have hb1:(!decide (f x y=0))=true:=by simp [e]
   obtain ⟨h3,l3⟩:=x
   obtain ⟨h4,l4⟩:=y
   exact .inl (loop_last (by simp) (body_of_sbodyM mixedz (b123_1 W a b i h3 l3 h4 l4 _) Fb8_z2 [] [] Fb8_z1))
theorem lists123 (f:JV->JV->Int) (a b:List JV) (hl:a.length<=2 ^ 50) (hf:∀ x ∈ a,∀ y,Pure Tryz.prog W 36 [encV x,encV y] (iA (f x y))):Pure Tryz.prog W 67 [.sl 5 (encVs a) [],.sl 5 (encVs b) [],.val (.func (.func 36) #[] #[])] (iA (cmpLs f a b)):=by
 rcases loop123 W f a b hl hf a.length 0 (by simp) (by omega) (by omega) with hlp|⟨hlp,h2,h3⟩
 ·exact pure_of_mut rfl (mut_of_sfun mixedz call123 rfl (p123_0 W a b _) Fb8_z3)
 ·rw [show cmpLs f a b=cmpI a.length b.length from h3,cmpI]
  by_cases h:(a.length:Int)<(b.length:Int)
  ·rw [if_pos h]
   exact pure_of_mut rfl (mut_of_sfun mixedz call123 rfl (q123_0 W a b) Fb8_z3)
  ·rw [if_neg h,if_neg (by omega)]
   exact pure_of_mut rfl (mut_of_sfun mixedz call123 rfl (q123_1 W a b) Fb8_z3)
section
variable (h:JH) (l:List JV) (h2:JH) (l2:List JV)
theorem loop124 (f:JV->JV->Int) (hl:cntV (.mk h l)<=2 ^ 50) (hf:∀ x ∈ l,∀ y,Pure Tryz.prog W 36 [encV x,encV y] (iA (f x y))) (m:Nat) (hm:m<=(JV.mk h l).mem/\m<=(JV.mk h2 l2).mem/\(m=(JV.mk h l).mem\/m=(JV.mk h2 l2).mem)):∀ (k i:Nat),m - i=k->i<=m →
 (LoopC Tryz.prog W [] (nslots Tryz.prog 68) (loopOf Tryz.prog 68 0) (S124 h l h2 l2 (JV.mk h l).mem (JV.mk h2 l2).mem m i) .ret (Rv 4 (cmpMs f ((JV.mk h l).mems.drop i) ((JV.mk h2 l2).mems.drop i)))) ∨
 (LoopC Tryz.prog W [] (nslots Tryz.prog 68) (loopOf Tryz.prog 68 0) (S124 h l h2 l2 (JV.mk h l).mem (JV.mk h2 l2).mem m i) (.exit 0) (E124 (JV.mk h l).mem (JV.mk h2 l2).mem)/\cmpMs f ((JV.mk h l).mems.drop i) ((JV.mk h2 l2).mems.drop i)=cmpI (JV.mk h l).mem (JV.mk h2 l2).mem):=by
 have hcl:=cntV_len (.mk h l)
 have a1:=JV.mem_names (.mk h l)
 have a2:=JV.mem_items (.mk h l)
 have a3:=JV.mem_names (.mk h2 l2)
 have a4:=JV.mem_items (.mk h2 l2)
 simp only [JV.names,JV.items,JV.hd] at hcl a1 a2 a3 a4
 have b1:=JV.mems_len (.mk h l)
 have b2:=JV.mems_len (.mk h2 l2)
 intro k
 induction k with
 | zero =>
  intro i hk h1
  have hi:i=m:=by omega
  refine .inr ⟨loop_last (by simp) (body_of_sbodyM mixedz (b124_3 W h l h2 l2 _ _ m i) Fb8_z2 [] [] Fb8_z1),?_⟩
  rw [cmpMs_end f (by omega) (by omega) (by omega),b1,b2]
 | succ k ih =>
  intro i hk h1
  obtain ⟨x,hx⟩:=getOf (l:=h.names) (i:=i) (by omega)
  obtain ⟨y,hy⟩:=getOf (l:=h2.names) (i:=i) (by omega)
  obtain ⟨v,hv⟩:=getOf (l:=l) (i:=i) (by omega)
  obtain ⟨w,hw⟩:=getOf (l:=l2) (i:=i) (by omega)
  have hget:(List.map AV.str h.names)[((i:Int)).toNat]?=some (AV.str x):=by rw [Int.toNat_natCast];exact strs_get hx
  have hget2:(List.map AV.str h2.names)[((i:Int)).toNat]?=some (AV.str y):=by rw [Int.toNat_natCast];exact strs_get hy
  have hget3:(encVs l)[((i:Int)).toNat]?=some (encV v):=by rw [Int.toNat_natCast];exact encVs_get hv
  have hget4:(encVs l2)[((i:Int)).toNat]?=some (encV w):=by rw [Int.toNat_natCast];exact encVs_get hw
  have hws:IntKind.i64.wrap ((i:Int)+1)=((i+1:Nat):Int):=wrap_succ (by omega)
  have hc1:=mut_of_pure (by rfl) (str122 W x y)
  have hc2:=mut_of_pure (by simp only [cloL,encV_clo,Bool.and_self]) (hf v (List.mem_of_getElem? hv) w)
  rw [cmpMs_step f (mems_at (v:=.mk h l) hx hv) (mems_at (v:=.mk h2 l2) hy hw)]
  by_cases e1:Lib.compareBytes x y=0
  case neg =>
   rw [if_neg e1]
   have hb1:(!decide (Lib.compareBytes x y=0))=true:=by simp [e1]
   exact .inl (loop_last (by simp) (body_of_sbodyM mixedz (b124_0 W h l h2 l2 _ _ m i x y _) Fb8_z2 [] [] Fb8_z1))
  rw [if_pos e1]
  have hb1:(!decide (Lib.compareBytes x y=0))=false:=by simp [e1]
  by_cases e:f v w=0
  ·rw [if_pos e]
   have hb2:(!decide (f v w=0))=false:=by simp [e]
   have hbd:BodyC Tryz.prog W [] (nslots Tryz.prog 68) (loopOf Tryz.prog 68 0) (S124 h l h2 l2 (JV.mk h l).mem (JV.mk h2 l2).mem m i) .normal (S124 h l h2 l2 (JV.mk h l).mem (JV.mk h2 l2).mem m (i+1:Nat)):=by
    obtain ⟨h3,l3⟩:=v
    obtain ⟨h4,l4⟩:=w
    exact body_of_sbodyK mixedz (b124_2 W h l h2 l2 _ _ m i x y h3 l3 h4 l4 (Lib.compareBytes x y) (f (.mk h3 l3) (.mk h4 l4))) Fb8_z2 [] [] Fb8_z1
   rcases ih (i+1) (by omega) (by omega) with h|⟨h,h'⟩
   ·exact .inl (loop_next hbd h)
   ·exact .inr ⟨loop_next hbd h,h'⟩
  ·rw [if_neg e]
   have hb2:(!decide (f v w=0))=true:=by simp [e]
   obtain ⟨h3,l3⟩:=v
   obtain ⟨h4,l4⟩:=w
   exact .inl (loop_last (by simp) (body_of_sbodyM mixedz (b124_1 W h l h2 l2 _ _ m i x y h3 l3 h4 l4 (Lib.compareBytes x y) (f (.mk h3 l3) (.mk h4 l4))) Fb8_z2 [] [] Fb8_z1))
theorem members124 (f:JV->JV->Int) (hl:cntV (.mk h l)<=2 ^ 50) (hf:∀ x ∈ l,∀ y,Pure Tryz.prog W 36 [encV x,encV y] (iA (f x y))):Pure Tryz.prog W 68 [encV (.mk h l),encV (.mk h2 l2)] (iA (cmpMs f (JV.mk h l).mems (JV.mk h2 l2).mems)):=by
 have hme:=mem_min h l
 have hme2:=mem_min h2 l2
 obtain ⟨m,hm,hmk⟩:∃ m:Nat,(m<=(JV.mk h l).mem/\m<=(JV.mk h2 l2).mem/\(m=(JV.mk h l).mem\/m=(JV.mk h2 l2).mem))/\(if (((JV.mk h2 l2).mem:Nat):Int)<(((JV.mk h l).mem:Nat):Int) then (((JV.mk h2 l2).mem:Nat):Int) else (((JV.mk h l).mem:Nat):Int))=((m:Nat):Int):=by
  by_cases q:(JV.mk h2 l2).mem<(JV.mk h l).mem
  ·exact ⟨_,⟨by omega,Nat.le_refl _,.inr rfl⟩,by rw [if_pos (by omega)]⟩
  ·exact ⟨_,⟨Nat.le_refl _,by omega,.inl rfl⟩,by rw [if_neg (by omega)]⟩
 rcases loop124 W h l h2 l2 f hl hf m hm m 0 (by simp) (by omega) with hlp|⟨hlp,h3⟩
 ·exact pure_of_mut rfl (mut_of_sfun mixedz call124 rfl (p124_0 W h l h2 l2 _ _ m _) Fb8_z3)
 ·have hc:=mut_of_pure (by rfl) (ints119 W (JV.mk h l).mem (JV.mk h2 l2).mem)
  rw [show cmpMs f (JV.mk h l).mems (JV.mk h2 l2).mems=_ from h3]
  exact pure_of_mut rfl (mut_of_sfun mixedz call124 rfl (q124_0 W h l h2 l2 _ _ m _) Fb8_z3)
end
theorem cmpF_mk (n:Nat) (h:JH) (l:List JV) (h2:JH) (l2:List JV):cmpF (n+1) (.mk h l) (.mk h2 l2)=if cmpI (rankV h.kind) (rankV h2.kind)=0 then (if h.kind=3 then cmpI h.int h2.int else if h.kind=4 then Lib.compareBytes h.text h2.text else if h.kind=5 then cmpLs (cmpF n) l l2 else if h.kind=6 then cmpMs (cmpF n) (JV.mk h l).mems (JV.mk h2 l2).mems else 0) else cmpI (rankV h.kind) (rankV h2.kind):=rfl
theorem compare81:∀ (n:Nat) (a b:JV),sizeV a<n->cntV a<=2 ^ 30->Pure Tryz.prog W 36 [encV a,encV b] (iA (cmpF n a b))
 | 0,a,b,h,_=>by omega
 | n+1,.mk h l,.mk h2 l2,hn,hcn=>by
  have hcnl:=cntV_len (.mk h l)
  simp only [JV.names,JV.hd,JV.items] at hcnl
  have hf:∀ x ∈ l,∀ y,Pure Tryz.prog W 36 [encV x,encV y] (iA (cmpF n x y)):=fun x hx y=>compare81 n x y (by
   obtain ⟨i,hi⟩:=List.getElem?_of_mem hx
   have:=sizeV_item (v:=.mk h l) hi;omega) (by
   obtain ⟨i,hi⟩:=List.getElem?_of_mem hx
   have:=cntV_item (v:=.mk h l) hi;omega)
  have hc1:=mut_of_pure (by rfl) (rank120 W h l)
  have hc2:=mut_of_pure (by rfl) (rank120 W h2 l2)
  have hc3:=mut_of_pure (by rfl) (ints119 W (rankV h.kind) (rankV h2.kind))
  rw [cmpF_mk]
  by_cases e0:cmpI (rankV h.kind) (rankV h2.kind)=0
  case neg =>
   rw [if_neg e0]
   have hb1:(!decide (cmpI (rankV h.kind) (rankV h2.kind)=0))=true:=by simp [e0]
   exact pure_of_mut rfl (mut_of_sfun mixedz call81 rfl (p81_0 W h l h2 l2 _) Fb8_z2)
  rw [if_pos e0]
  have hb1:(!decide (cmpI (rankV h.kind) (rankV h2.kind)=0))=false:=by simp [e0]
  by_cases k3:h.kind=3
  ·rw [if_pos k3]
   have hc:=mut_of_pure (by rfl) (ints121 W h.int h2.int)
   exact pure_of_mut rfl (mut_of_sfun mixedz call81 rfl (p81_1 W h l h2 l2 _ _) Fb8_z2)
  rw [if_neg k3]
  by_cases k4:h.kind=4
  ·rw [if_pos k4]
   have hc:=mut_of_pure (by rfl) (str122 W h.text h2.text)
   exact pure_of_mut rfl (mut_of_sfun mixedz call81 rfl (p81_2 W h l h2 l2 _ _) Fb8_z2)
  rw [if_neg k4]
  by_cases k5:h.kind=5
  ·rw [if_pos k5]
   have hc:=mut_of_pure (by rfl) (lists123 W (cmpF n) l l2 (by omega) hf)
   exact pure_of_mut rfl (mut_of_sfun mixedz call81 rfl (p81_3 W h l h2 l2 _ _) Fb8_z2)
  rw [if_neg k5]
  by_cases k6:h.kind=6
  ·rw [if_pos k6]
   have hc:=mut_of_pure (by rfl) (members124 W h l h2 l2 (cmpF n) (by omega) hf)
   exact pure_of_mut rfl (mut_of_sfun mixedz call81 rfl (p81_4 W h l h2 l2 _ _) Fb8_z2)
  rw [if_neg k6]
  exact pure_of_mut rfl (mut_of_sfun mixedz call81 rfl (p81_5 W h l h2 l2 _) Fb8_z2)
end
end Go.Ac

namespace Go.Ac
open Go
section
variable {α:Type} (lt:α->α->Bool)
variable {lt}
end
end Go.Ac

namespace Go.Ac
open Go
section
variable {P:Program} {W:World} {f:FuncId}
theorem mut_nameA {k1 k2 n c:Nat} {e:TypeId} {x y:List AV} {r:AV} {rest:List AV} (hk2:100000<=k2) (hxf:cloL (flats x)=true) (hyf:cloL (flats y)=true) (hr:r.clo=true) (hrest:cloL rest=true)
 (h:MutC P W f (.gs k1 0 n::rest) [(k1,.arr e c x .own)] (.ret r [(k1,.arr e c y .own)])):MutC P W f (.gs k2 0 n::rest) [(k2,.arr e c x .own)] (.ret r [(k2,.arr e c y .own)]):=by
 intro β I w vs hw hlB hi hR
 have hlb:∀ b,lentB (fun _=>β k2) [(k1,.arr e c x .own)] b->lentB β [(k2,.arr e c x .own)] b:=by
  rintro b ⟨k,g,hk,hb,hs,he⟩
  obtain ⟨_,rfl⟩:=hg_one hk
  exact ⟨k2,_,hg_self,hb,hs,he⟩
 have hlb':∀ b,lentB β [(k2,.arr e c x .own)] b->lentB (fun _=>β k2) [(k1,.arr e c x .own)] b:=by
  rintro b ⟨k,g,hk,hb,hs,he⟩
  obtain ⟨rfl,rfl⟩:=hg_one hk
  exact ⟨k1,_,hg_self,hb,hs,he⟩
 have hi1:Inv (fun _=>β k2) I (hg [(k1,.arr e c x .own)]) w.heap:=by
  refine ⟨fun k g hk=>?_,hi.imm,fun k k' g g' hne h1 h2=>?_⟩
  ·obtain ⟨_,rfl⟩:=hg_one hk
   obtain ⟨g1,g2,g3,g4⟩:=hi.ge k2 _ hg_self
   refine ⟨g1,g2,g3,?_⟩
   rcases g4 with g4|⟨j1,us,j2,j3,j4,j5,j6,j7,j8⟩
   ·exact .inl g4
   ·exact .inr ⟨j1,us,j2,j3,j4,(j5.clo hxf).closed (fun b hb=>⟨hb,rfl⟩) rfl true,j6,j7,j8⟩
  ·obtain ⟨rfl,_⟩:=hg_one h1
   obtain ⟨rfl,_⟩:=hg_one h2
   exact absurd rfl hne
 have hR1:RL (fun _=>β k2) (dom (hg [(k1,.arr e c x .own)])) I w.heap true (.gs k1 0 n::rest) vs:=by
  cases hR with
  | cons h1 h2 =>
   refine .cons ?_ ((h2.clo hrest).closed (fun b hb=>⟨hb,rfl⟩) rfl true)
   cases h1 with
   | gs hD q1 q2 q3=>exact .gs (β:=fun _=>β k2) (k:=k1) (i:=0) (show dom (hg [(k1,GE.arr e c x .own)]) k1 by simp [dom,hg]) q1 q2 q3
 refine (h _ I w vs hw (fun b hb=>hlB b (hlb b hb)) hi1 hR1).mono fun e1 w' ⟨β',I',v,q1,q2,q3,q4⟩=>?_
 obtain ⟨f1,f2,f3,f4,f5,f6,f7,f8,f9⟩:=q4
 have hp:=(f9 k1 (β k2) (by simp [lentE,hg])).2.2
 obtain ⟨g1,g2,g3,g4⟩:=q3.ge k1 _ hg_self
 rw [hp] at g1 g4
 refine ⟨β,I',v,q1,(q2.clo hr).closed (fun b hb=>⟨hb,rfl⟩) rfl true,⟨fun k g hk=>?_,q3.imm,fun k k' g g' hne h1 h2=>?_⟩,⟨f1,f2,f3,f4,(fun b hb hn=>f5 b hb fun hl=>hn (hlb b hl)),f6,(fun b hb hlt=>(f7 b hb hlt).imp id (hlb b)),(fun k g hk hbk hs=>?_),fun k p hk=>?_⟩⟩
 ·obtain ⟨rfl,rfl⟩:=hg_one hk
  refine ⟨g1,g2,g3,?_⟩
  rcases g4 with g4|⟨j1,us,j2,j3,j4,j5,j6,j7,j8⟩
  ·exact .inl g4
  ·exact .inr ⟨j1,us,j2,j3,j4,(j5.clo hyf).closed (fun b hb=>⟨hb,rfl⟩) rfl true,j6,j7,j8⟩
 ·obtain ⟨rfl,_⟩:=hg_one h1
  obtain ⟨rfl,_⟩:=hg_one h2
  exact absurd rfl hne
 ·obtain ⟨rfl,rfl⟩:=hg_one hk
  have:=f8 k1 _ hg_self (show (β' k1).z ≠ 0 by rw [hp];exact hbk) hs
  rw [hp] at this
  exact this.imp id (hlb _)
 ·have hk':(if (hg [(k2,GE.arr e c x .own)] k).isSome=true then some (β k) else none)=some p:=hk
  split at hk'
  ·rename_i hs
   obtain ⟨g,hgk⟩:=Option.isSome_iff_exists.1 hs
   obtain ⟨rfl,_⟩:=hg_one hgk
   cases hk'
   exact ⟨hk2,by show (hg [(_,GE.arr e c y .own)] _).isSome=true;rw [hg_self];rfl,rfl⟩
  ·cases hk'
end
end Go.Ac

namespace Go.Ac
open Go
end Go.Ac

namespace Go.Proofs
open Go.RowKit Go.Shelf
attribute [local go_sem] Oper.semAt_some
set_option maxRecDepth 100000
set_option maxHeartbeats 1000000
theorem Tryz.all78_in (F:Fence) (n:Nat) (h6:F.fn 78) (hro:F.round=none) (a:Option Addr) (len cap:Nat) (w:World) :
 CallsIn F n Tryz.prog 78 #[.slice a len cap] w fun e w'=>e=.returned (.func (.func 98) #[] #[.pointer (some ⟨w.heap.size,0,none⟩)])/\w'=w.alloc (.cells #[.slice a len cap] 23):=by
 refine callsIn_of_wp Tryz.func78 rfl h6 ?_ hro
 simp only [Tryz.ntmps78,List.size_toArray,List.length_cons,List.length_nil,Nat.reduceAdd,Nat.reduceSub,Array.replicate_succ,Array.replicate_zero,List.push_toArray,List.append_toArray,List.nil_append,List.cons_append]
 gi_wp2
 go_ret
 exact ⟨rfl,rfl⟩
end Go.Proofs

namespace Go.Proofs
open Go.RowKit Go.Shelf
attribute [local go_sem] Oper.semAt_some
set_option maxRecDepth 100000
set_option maxHeartbeats 1000000
theorem Tryz.all98_in (F:Fence) (n:Nat) (h8:F.fn 98) (hro:F.round=none) (hn:1<=n) (l Bs n₀ b off cap:Nat) (k0 k1:Int) (s2:ByteArray) (a3:Option Addr) (l3 p3:Nat) (a4:Option Addr) (l4 p4:Nat) (hb:b<n₀) (J Jx:List Unit->World->Prop)
 (hY:∀ pre x W,J pre W->pre.length<1->YieldAt F (n - 1) Tryz.prog l #[.int .i64 0,.agg #[.int .i64 k0,.int .i64 k1,.string s2,.slice a3 l3 p3,.slice a4 l4 p4]] W fun e W' =>
  (e=.returned (.bool true)/\J (pre++[x]) W'/\Below n₀ W W')\/(e=.returned (.bool false)/\Jx (pre++[x]) W'))
 (hJa:∀ pre W o,J pre W->Below n₀ W (W.alloc o)->J pre (W.alloc o))
 (W:World) (hn₀:n₀<=W.heap.size) (hBs:W.cell? ⟨Bs,0,none⟩=some (.slice (some ⟨b,off,none⟩) 1 cap))
 (hc0:W.cell? ⟨b,off,none⟩=some (.int .i64 k0)) (hc1:W.cell? ⟨b,off+1,none⟩=some (.int .i64 k1)) (hc2:W.cell? ⟨b,off+2,none⟩=some (.string s2)) (hc3:W.cell? ⟨b,off+3,none⟩=some (.slice a3 l3 p3)) (hc4:W.cell? ⟨b,off+4,none⟩=some (.slice a4 l4 p4)) (h0:J [] W) :
 CallsIn F n Tryz.prog 98 #[.func (.yield l) #[] #[],.pointer (some ⟨Bs,0,none⟩)] W fun e W'=>(∃ v,e=.returned v) ∧
  ((∃ ys,ys.length=1/\J ys W')\/(∃ pre,pre.length<=1/\Jx pre W')):=by
 refine callsIn_of_wp Tryz.func98 rfl h8 ?_ hro
 simp only [Tryz.ntmps98,List.size_toArray,List.length_cons,List.length_nil,Nat.reduceAdd,Nat.reduceSub,Array.replicate_succ,Array.replicate_zero,List.push_toArray,List.append_toArray,List.nil_append,List.cons_append]
 gi_wp2
 gi_loopw [7] (fun i wr=>∃ pre:List Unit,pre.length<=1/\i=.int .i64 pre.length/\J pre wr/\Below n₀ W wr)
  (fun i _=>1 - (intOf i).toNat)
 case atStart=>exact ⟨[],Nat.zero_le _,rfl,h0,Below.refl _ _⟩
 case round =>
  obtain ⟨pre,hk,rfl,hJs,hnx⟩:=hrel
  have e0:wr.cell? ⟨b,off,none⟩=some (.int .i64 k0):=(hnx.cell (p:=⟨b,off,none⟩) hb).trans hc0
  have e1:wr.cell? ⟨b,off+1,none⟩=some (.int .i64 k1):=(hnx.cell (p:=⟨b,off+1,none⟩) hb).trans hc1
  have e2:wr.cell? ⟨b,off+2,none⟩=some (.string s2):=(hnx.cell (p:=⟨b,off+2,none⟩) hb).trans hc2
  have e3:wr.cell? ⟨b,off+3,none⟩=some (.slice a3 l3 p3):=(hnx.cell (p:=⟨b,off+3,none⟩) hb).trans hc3
  have e4:wr.cell? ⟨b,off+4,none⟩=some (.slice a4 l4 p4):=(hnx.cell (p:=⟨b,off+4,none⟩) hb).trans hc4
  by_cases hlt:pre.length<1
  ·obtain rfl:pre=[]:=List.length_eq_zero_iff.1 (by omega)
   obtain ⟨fn,tmps,assign,body,hy,hR⟩:=hY _ () (wr.alloc (.cells #[.int .i64 k0,.int .i64 k1,.string s2,.slice a3 l3 p3,.slice a4 l4 p4] 25)) (hJa _ _ _ hJs ((Below.refl _ _).alloc (Nat.le_trans hn₀ hnx.size) _)) hlt
   gi_wp2
   refine hR.mono ?_
   rintro e W3 (⟨rfl,hJ3,hk3⟩|⟨rfl,hJx3⟩)
   ·gi_wp2
    go_roundw
    case rel=>exact ⟨[()],by simp,by simp,hJ3,hnx.trans (((Below.refl _ _).alloc (Nat.le_trans hn₀ hnx.size) _).trans hk3)⟩
    case measure=>simp [intOf]
   ·gi_wp2
    refine bodyPost_ret (results_none rfl _ _ _) rfl ?_
    exact ⟨⟨_,rfl⟩,.inr ⟨[()],by simp,hJx3⟩⟩
  ·obtain h1:pre.length=1:=by omega
   gi_wp2
   go_end0
   exact ⟨⟨_,rfl⟩,.inl ⟨_,h1,hJs⟩⟩
end Go.Proofs

namespace Go.Proofs
open Go.RowKit Go.Shelf
theorem Tryz.all98_stops (F:Fence) (n:Nat) (h8:F.fn 98) (hro:F.round=none) (hn:1<=n) (Bs n₀ b off cap:Nat) (k0 k1:Int) (s2:ByteArray) (a3:Option Addr) (l3 p3:Nat) (a4:Option Addr) (l4 p4:Nat) (hb:b<n₀)
 (w:World) (hBs:Bs<w.heap.size) (hn₀:n₀<=w.heap.size) (hc:w.cell? ⟨Bs,0,none⟩=some (.slice (some ⟨b,off,none⟩) 1 cap))
 (hc0:w.cell? ⟨b,off,none⟩=some (.int .i64 k0)) (hc1:w.cell? ⟨b,off+1,none⟩=some (.int .i64 k1)) (hc2:w.cell? ⟨b,off+2,none⟩=some (.string s2)) (hc3:w.cell? ⟨b,off+3,none⟩=some (.slice a3 l3 p3)) (hc4:w.cell? ⟨b,off+4,none⟩=some (.slice a4 l4 p4)) :
 SeqStopsK F n Tryz.prog 98 #[.pointer (some ⟨Bs,0,none⟩)] (fun _:Unit=>#[Value.int .i64 0,.agg #[.int .i64 k0,.int .i64 k1,.string s2,.slice a3 l3 p3,.slice a4 l4 p4]]) (Below n₀) (fun ys=>ys.length=1) (fun pre=>pre.length<=1) 1 w:=fun l J Jx W hW hJ _ hY h0=>by
 have hbw:b<w.heap.size:=Nat.lt_of_lt_of_le hb hn₀
 exact Tryz.all98_in F n h8 hro hn l Bs n₀ b off cap k0 k1 s2 a3 l3 p3 a4 l4 p4 hb J Jx hY
  (fun pre W o hs _=>hJ _ _ _ none hs (World.grownBy_alloc W o none) (fun r e=>by cases e)) W (Nat.le_trans hn₀ hW.size)
  ((hW.cell (p:=⟨Bs,0,none⟩) hBs).trans hc) ((hW.cell (p:=⟨b,off,none⟩) hbw).trans hc0) ((hW.cell (p:=⟨b,off+1,none⟩) hbw).trans hc1) ((hW.cell (p:=⟨b,off+2,none⟩) hbw).trans hc2) ((hW.cell (p:=⟨b,off+3,none⟩) hbw).trans hc3) ((hW.cell (p:=⟨b,off+4,none⟩) hbw).trans hc4) h0
end Go.Proofs

namespace Go.Proofs
open Go.RowKit Go.Shelf
attribute [local go_sem] Oper.semAt_some
set_option maxRecDepth 100000
set_option maxHeartbeats 4000000
def BoxF (W:World) (B:Nat) (t:TypeId) (cs:Array Value):Prop:=W.heap[B]?=some (.cells cs t (0,0))
theorem BoxF.lt {W:World} {B:Nat} {t:TypeId} {cs:Array Value} (h:BoxF W B t cs):B<W.heap.size:=(Array.getElem?_eq_some_iff.1 h).1
theorem BoxF.new (W:World) (t:TypeId) (cs:Array Value):BoxF (W.alloc (.cells cs t)) W.heap.size t cs:=World.alloc_heap_new W _
theorem BoxF.kept {W W':World} {row:Option Nat} {B:Nat} {t:TypeId} {cs:Array Value} (h:BoxF W B t cs) (hg:W.grownBy W' row) (hne:some B ≠ row):BoxF W' B t cs:=(hg.block B h.lt hne).trans h
theorem BoxF.alloc {W:World} {B:Nat} {t:TypeId} {cs:Array Value} (h:BoxF W B t cs) (o:Obj):BoxF (W.alloc o) B t cs:=h.kept (World.grownBy_alloc W o none) (by simp)
theorem boxF_own {β:Type} (B:Nat) (t:TypeId) (f:β->Array Value):Own (fun s W=>BoxF W B t (f s)):=fun s X Y row hs hg hrow =>
 hs.kept hg (fun e'=>by obtain ⟨o,ho,hc⟩:=hrow B e'.symm;rw [show X.heap[B]?=_ from hs] at ho;cases ho;cases hc)
theorem BoxF.cells {W:World} {B:Nat} {t:TypeId} {c0 c1 c2 c3 c4:Value} (h:BoxF W B t #[c0,c1,c2,c3,c4]) :
 W.cell? ⟨B,0,none⟩=some c0/\W.cell? ⟨B,1,none⟩=some c1/\W.cell? ⟨B,2,none⟩=some c2/\W.cell? ⟨B,3,none⟩=some c3/\W.cell? ⟨B,4,none⟩=some c4:=by
 have h':W.heap[B]?=_:=h
 refine ⟨?_,?_,?_,?_,?_⟩<;>simp [World.cell?,h']
theorem BoxF.frozen {W:World} {B:Nat} {t:TypeId} {c0 c1 c2 c3 c4:Value} (h:BoxF W B t #[c0,c1,c2,c3,c4]) :
 W.frozen? ⟨B,0,none⟩=false/\W.frozen? ⟨B,1,none⟩=false/\W.frozen? ⟨B,2,none⟩=false/\W.frozen? ⟨B,3,none⟩=false/\W.frozen? ⟨B,4,none⟩=false:=by
 have h':W.heap[B]?=_:=h
 refine ⟨?_,?_,?_,?_,?_⟩<;>simp [World.frozen?,h']
theorem BoxF.set {W:World} {B:Nat} {t:TypeId} {cs:Array Value} (h:BoxF W B t cs) (i:Nat) (v:Value):BoxF (W.setCell ⟨B,i,none⟩ v) B t (cs.setIfInBounds i v):=by
 obtain ⟨hlt,hk⟩:=Array.getElem?_eq_some_iff.1 h
 show (W.heap.modify B _)[B]?=_
 rw [Array.getElem?_eq_getElem (by rw [Array.size_modify];exact hlt),Array.getElem_modify_self,hk]
 rfl
theorem BoxF.otherP {W:World} {B:Nat} {t:TypeId} {cs:Array Value} (h:BoxF W B t cs) (p:Addr) (hne:B ≠ p.block) (u:Value):BoxF (W.setCell p u) B t cs:=(Below.heap_setCell W p u B hne).trans h
theorem boxedP {W:World} {B:Nat} {t:TypeId} {v:Value} (h:Boxed W B t v) (p:Addr) (hne:B ≠ p.block) (u:Value):Boxed (W.setCell p u) B t v:=(Below.heap_setCell W p u B hne).trans h
theorem stores7 {W:World} {s:Nat} {a b:Value} {cs:Array Value} (v0 c0 c1 c2 c3 c4 v6:Value) (hA:Boxed W (s+1) 3 a) (hY:Boxed W (s+1+1) 4 b) (hB:BoxF W (s+1+1+1) 25 cs) (W':World)
 (hW:W'=(((((((W.setCell ⟨s+1,0,none⟩ v0).setCell ⟨s+1+1+1,0,none⟩ c0).setCell ⟨s+1+1+1,1,none⟩ c1).setCell ⟨s+1+1+1,2,none⟩ c2).setCell ⟨s+1+1+1,3,none⟩ c3).setCell ⟨s+1+1+1,4,none⟩ c4).setCell ⟨s+1+1,0,none⟩ v6).drew) :
 KeepsOthers W W'/\(∀ n₀,n₀<=s->Below n₀ W W')/\Boxed W' (s+1) 3 v0/\Boxed W' (s+1+1) 4 v6/\∃ cs',BoxF W' (s+1+1+1) 25 cs':=by
 have e1:s+1 ≠ s+1+1+1:=by omega
 have e2:s+1 ≠ s+1+1:=by omega
 have e3:s+1+1 ≠ s+1+1+1:=by omega
 have k1:=hA.set v0
 have k2:=boxedP hY ⟨s+1,0,none⟩ (Ne.symm e2) v0
 have k3:=hB.otherP ⟨s+1,0,none⟩ (Ne.symm e1) v0
 generalize hx0:W.setCell ⟨s+1,0,none⟩ v0=x0 at *
 have k1:=boxedP k1 ⟨s+1+1+1,0,none⟩ e1 c0
 have k2:=boxedP k2 ⟨s+1+1+1,0,none⟩ e3 c0
 have k3:=k3.set 0 c0
 generalize hx1:x0.setCell ⟨s+1+1+1,0,none⟩ c0=x1 at *
 have k1:=boxedP k1 ⟨s+1+1+1,1,none⟩ e1 c1
 have k2:=boxedP k2 ⟨s+1+1+1,1,none⟩ e3 c1
 have k3:=k3.set 1 c1
 generalize hx2:x1.setCell ⟨s+1+1+1,1,none⟩ c1=x2 at *
 have k1:=boxedP k1 ⟨s+1+1+1,2,none⟩ e1 c2
 have k2:=boxedP k2 ⟨s+1+1+1,2,none⟩ e3 c2
 have k3:=k3.set 2 c2
 generalize hx3:x2.setCell ⟨s+1+1+1,2,none⟩ c2=x3 at *
 have k1:=boxedP k1 ⟨s+1+1+1,3,none⟩ e1 c3
 have k2:=boxedP k2 ⟨s+1+1+1,3,none⟩ e3 c3
 have k3:=k3.set 3 c3
 generalize hx4:x3.setCell ⟨s+1+1+1,3,none⟩ c3=x4 at *
 have k1:=boxedP k1 ⟨s+1+1+1,4,none⟩ e1 c4
 have k2:=boxedP k2 ⟨s+1+1+1,4,none⟩ e3 c4
 have k3:=k3.set 4 c4
 generalize hx5:x4.setCell ⟨s+1+1+1,4,none⟩ c4=x5 at *
 have k1:=boxedP k1 ⟨s+1+1,0,none⟩ e2 v6
 have k2:=k2.set v6
 have k3:=k3.otherP ⟨s+1+1,0,none⟩ (Ne.symm e3) v6
 generalize hx6:x5.setCell ⟨s+1+1,0,none⟩ v6=x6 at *
 subst hW
 refine ⟨?_,?_,k1,k2,_,k3⟩
 ·subst hx0 hx1 hx2 hx3 hx4 hx5 hx6
  exact (((((((KeepsOthers.setCell W _ _).trans (KeepsOthers.setCell _ _ _)).trans (KeepsOthers.setCell _ _ _)).trans (KeepsOthers.setCell _ _ _)).trans (KeepsOthers.setCell _ _ _)).trans (KeepsOthers.setCell _ _ _)).trans (KeepsOthers.setCell _ _ _)).trans (KeepsOthers.drew _)
 ·intro n₀ hn
  subst hx0 hx1 hx2 hx3 hx4 hx5 hx6
  have q0:n₀<=s+1:=by omega
  have q1:n₀<=s+1+1:=by omega
  have q2:n₀<=s+1+1+1:=by omega
  exact ((((((((Below.refl n₀ W).setCell q0 _).setCell q2 _).setCell q2 _).setCell q2 _).setCell q2 _).setCell q2 _).setCell q1 _).drew
theorem boxE_own {β:Type} (B:Nat) (t:TypeId) (G:β->Array Value->Prop):Own (fun s W=>∃ cs,BoxF W B t cs/\G s cs):=fun s X Y row hs hg hrow=>by
 obtain ⟨cs,h1,h2⟩:=hs
 exact ⟨cs,boxF_own B t (fun (_:Unit)=>cs) () X Y row h1 hg hrow,h2⟩
theorem Tryz.chosen77_in (F:Fence) (n:Nat) (h77:F.fn 77) (h98:F.fn 98) (hro:F.round=none) (hn:3<=n) (g:Nat) (Bs n₀ b off cap:Nat) (k0 k1:Int) (s2:ByteArray) (a3:Option Addr) (l3 p3:Nat) (a4:Option Addr) (l4 p4:Nat) (hb:b<n₀)
 (w:World) (hBs:Bs<w.heap.size) (hn₀:n₀<=w.heap.size) (hc:w.cell? ⟨Bs,0,none⟩=some (.slice (some ⟨b,off,none⟩) 1 cap))
 (hc0:w.cell? ⟨b,off,none⟩=some (.int .i64 k0)) (hc1:w.cell? ⟨b,off+1,none⟩=some (.int .i64 k1)) (hc2:w.cell? ⟨b,off+2,none⟩=some (.string s2)) (hc3:w.cell? ⟨b,off+3,none⟩=some (.slice a3 l3 p3)) (hc4:w.cell? ⟨b,off+4,none⟩=some (.slice a4 l4 p4)) :
 CallsIn F n Tryz.prog 77 #[.func (.func 98) #[] #[.pointer (some ⟨Bs,0,none⟩)],.func (.func g) #[] #[]] w fun e W'=>e=.returned (.tuple #[.int .i64 0,.bool true])/\Below w.heap.size w W':=by
 have h1:1<=n:=by omega
 refine callsIn_of_wp_marks Tryz.func77 rfl h77 ?_ hro
 simp only [Tryz.ntmps77,List.size_toArray,List.length_cons,List.length_nil,Nat.reduceAdd,Nat.reduceSub,Array.replicate_succ,Array.replicate_zero,List.push_toArray,List.append_toArray,List.nil_append,List.cons_append]
 gi_wp2
 have bG:=(((Boxed.new w 48 (.func (.func g) #[] #[])).alloc (.cells #[.int .i64 0] 3)).alloc (.cells #[.bool false] 4)).alloc (.cells #[Value.int IntKind.i64 0,Value.int IntKind.i64 0,Value.string ⟨#[]⟩,Value.slice none 0 0,Value.slice none 0 0] 25)
 have bA:=((Boxed.new (w.alloc (.cells #[.func (.func g) #[] #[]] 48)) 3 (.int .i64 0)).alloc (.cells #[.bool false] 4)).alloc (.cells #[Value.int IntKind.i64 0,Value.int IntKind.i64 0,Value.string ⟨#[]⟩,Value.slice none 0 0,Value.slice none 0 0] 25)
 have bY:=(Boxed.new ((w.alloc (.cells #[.func (.func g) #[] #[]] 48)).alloc (.cells #[.int .i64 0] 3)) 4 (.bool false)).alloc (.cells #[Value.int IntKind.i64 0,Value.int IntKind.i64 0,Value.string ⟨#[]⟩,Value.slice none 0 0,Value.slice none 0 0] 25)
 have bB:=BoxF.new (((w.alloc (.cells #[.func (.func g) #[] #[]] 48)).alloc (.cells #[.int .i64 0] 3)).alloc (.cells #[.bool false] 4)) 25 #[Value.int IntKind.i64 0,Value.int IntKind.i64 0,Value.string ⟨#[]⟩,Value.slice none 0 0,Value.slice none 0 0]
 simp only [World.size_alloc] at bA bY bB
 have hB0:Below w.heap.size w ((((w.alloc (.cells #[.func (.func g) #[] #[]] 48)).alloc (.cells #[.int .i64 0] 3)).alloc (.cells #[.bool false] 4)).alloc (.cells #[Value.int IntKind.i64 0,Value.int IntKind.i64 0,Value.string ⟨#[]⟩,Value.slice none 0 0,Value.slice none 0 0] 25)) :=
  ((((Below.refl _ w).alloc (Nat.le_refl _) _).alloc (by simp) _).alloc (by simp;omega) _).alloc (by simp;omega) _
 have hsz:((((w.alloc (.cells #[.func (.func g) #[] #[]] 48)).alloc (.cells #[.int .i64 0] 3)).alloc (.cells #[.bool false] 4)).alloc (.cells #[Value.int IntKind.i64 0,Value.int IntKind.i64 0,Value.string ⟨#[]⟩,Value.slice none 0 0,Value.slice none 0 0] 25)).heap.size=w.heap.size+4:=by simp
 obtain ⟨W0,hW0⟩:∃ W0,((((w.alloc (.cells #[.func (.func g) #[] #[]] 48)).alloc (.cells #[.int .i64 0] 3)).alloc (.cells #[.bool false] 4)).alloc (.cells #[Value.int IntKind.i64 0,Value.int IntKind.i64 0,Value.string ⟨#[]⟩,Value.slice none 0 0,Value.slice none 0 0] 25))=W0:=⟨_,rfl⟩
 rw [hW0] at bG bA bY bB hB0 hsz ⊢
 clear hW0
 have hbs:b<w.heap.size:=Nat.lt_of_lt_of_le hb hn₀
 refine wpIn_rangeFunc_ownH hro h1 (gf:=98) (lb:=#[.pointer (some ⟨Bs,0,none⟩)]) rfl h98 (enters_of Tryz.func98 (by kernel_rfl) rfl)
  (Tryz.all98_stops F (n - 1) h98 hro (by omega) Bs n₀ b off cap k0 k1 s2 a3 l3 p3 a4 l4 p4 hb W0 (by omega) (by omega) ((hB0.cell (p:=⟨Bs,0,none⟩) hBs).trans hc)
   ((hB0.cell (p:=⟨b,off,none⟩) hbs).trans hc0) ((hB0.cell (p:=⟨b,off+1,none⟩) hbs).trans hc1) ((hB0.cell (p:=⟨b,off+2,none⟩) hbs).trans hc2) ((hB0.cell (p:=⟨b,off+3,none⟩) hbs).trans hc3) ((hB0.cell (p:=⟨b,off+4,none⟩) hbs).trans hc4))
  belowK_t (belowK_b (by omega)) (Below.refl _ _) (fun _=>rfl)
  (fun pre W=>((Boxed W (w.heap.size+1) 3 (.int .i64 0)/\Boxed W (w.heap.size+1+1) 4 (.bool (!pre.isEmpty)))/\(∃ cs,BoxF W (w.heap.size+1+1+1) 25 cs/\(pre=[]->cs=#[Value.int IntKind.i64 0,Value.int IntKind.i64 0,Value.string ⟨#[]⟩,Value.slice none 0 0,Value.slice none 0 0])))/\Below w.heap.size w W)
  (fun _ _ _=>False)
  (OwnFrom.and (OwnFrom.and (OwnFrom.and (Own.from (boxed_own _ _ _) _) (Own.from (boxed_own _ _ _) _)) (Own.from (boxE_own _ _ _) _)) (ownFrom_below (Nat.le_refl _) (by omega)))
  (fun _ _ _ _ _ hs _ _=>hs)
  ⟨⟨⟨bA,bY⟩,⟨_,bB,fun _=>rfl⟩⟩,hB0⟩
  (fun x a' W=>∃ Bx,w.heap.size+1+1+1<Bx/\BoxF W Bx 25 #[.int .i64 k0,.int .i64 k1,.string s2,.slice a3 l3 p3,.slice a4 l4 p4]/\a'={tmps:=#[.func (.func 98) #[] #[.pointer (some ⟨Bs,0,none⟩)],.func (.func g) #[] #[],undef,.pointer (some ⟨w.heap.size,0,none⟩),.int .i64 0,.bool false,.pointer (some ⟨w.heap.size+1,0,none⟩),.pointer (some ⟨w.heap.size+1+1,0,none⟩),.pointer (some ⟨w.heap.size+1+1+1,0,none⟩),.int .i64 0,.pointer (some ⟨Bx,0,none⟩),.func (.func 98) #[] #[.pointer (some ⟨Bs,0,none⟩)],.int .i64 0,.agg #[.int .i64 k0,.int .i64 k1,.string s2,.slice a3 l3 p3,.slice a4 l4 p4],undef,undef,undef,undef,undef,undef,undef,undef,undef,undef,undef,undef],defers:=[]})
  (fun x a' _ X Y row hs hg hr=>by obtain ⟨Bx,h1,h2,h3⟩:=hs;exact ⟨Bx,h1,boxF_own Bx 25 (fun (_:Unit)=>#[.int .i64 k0,.int .i64 k1,.string s2,.slice a3 l3 p3,.slice a4 l4 p4]) () X Y row h2 hg (fun r e=>(hr r e).2),h3⟩)
  ?assign ?body ?done ?stop
 case assign =>
  rintro l pre x W K ⟨⟨⟨bA1,bY1⟩,⟨cs,bB1,bB2⟩⟩,hB1⟩ hK
  gi_wp2
  exact hK _ _ ((KeepsOthers.alloc _ _).from _) ((Below.refl _ W).alloc (Nat.le_trans hn₀ hB1.size) _) ⟨⟨⟨bA1.alloc _,bY1.alloc _⟩,⟨cs,bB1.alloc _,bB2⟩⟩,hB1.alloc hB1.size _⟩ ⟨W.heap.size,bB1.lt,BoxF.new W 25 _,rfl⟩
 case body =>
  rintro l pre x a' W hl ⟨r,hr⟩ ⟨⟨⟨bA1,bY1⟩,⟨cs,bB1,bB2⟩⟩,hB1⟩ ⟨Bx,hBx,bX,rfl⟩ hlt
  obtain rfl:pre=[]:=List.length_eq_zero_iff.1 (by omega)
  obtain rfl:=bB2 rfl
  have cA:=bA1.cell
  have fA:=bA1.frozen
  have cY:=bY1.cell
  have fY:=bY1.frozen
  obtain ⟨x0,x1,x2,x3,x4⟩:=bX.cells
  obtain ⟨y0,y1,y2,y3,y4⟩:=BoxF.cells (c0:=.int .i64 0) bB1
  obtain ⟨f0,f1,f2,f3,f4⟩:=BoxF.frozen (c0:=.int .i64 0) bB1
  simp only [List.isEmpty_nil,Bool.not_true] at cY
  gi_wp2
  all_goals (refine ⟨fun _ h=>(by cases h),?_⟩)
  all_goals gi_wp2
  gi_region
  all_goals gi_wp2
  all_goals (
   obtain ⟨p1,p2,p3,p4,cs',p5⟩:=stores7 (.int .i64 0) (.int .i64 k0) (.int .i64 k1) (.string s2) (.slice a3 l3 p3) (.slice a4 l4 p4) (.bool true) bA1 bY1 bB1 _ rfl
   exact ⟨p1.from _,p2 _ hn₀,⟨⟨p3,p4⟩,⟨cs',p5,fun h=>by cases h⟩⟩,hB1.trans (p2 _ (Nat.le_refl _))⟩)
 case done =>
  rintro D zs W hD hS ⟨⟨⟨bA1,bY1⟩,_⟩,hB1⟩ hK
  have cA:=bA1.cell
  have cY:=bY1.cell
  obtain ⟨z,rfl⟩:∃ z,zs=[z]:=List.length_eq_one_iff.1 hS
  simp only [List.isEmpty_cons,Bool.not_false] at cY
  gi_wp2
  gi_region
  all_goals gi_wp2
  all_goals (
   have hKd:W.drew.heap[D]?=some (.deferred (some [])):=hK
   refine ⟨by simp,.inl ⟨_,_,rfl,run_takeDeferred hKd,?_⟩⟩
   refine ⟨.tuple #[.int .i64 0,.bool true],?_,rfl,hB1.drew.trans (belowK_b (w:=w) (Nat.le_refl _) W.drew D _ _ (by omega) hKd rfl rfl)⟩
   simp [results,Tryz.f77,go_sem])
 case stop =>
  rintro D c pre W _ _ h _
  exact h.elim
end Go.Proofs

namespace Go.Proofs
open Go.RowKit Go.Shelf
attribute [local go_sem] Oper.semAt_some
set_option maxRecDepth 100000
set_option maxHeartbeats 400000
theorem Tryz.least46_in (F:Fence) (n:Nat) (h46:F.fn 46) (h78:F.fn 78) (h77:F.fn 77) (h98:F.fn 98) (hro:F.round=none) (hn:4<=n) (b off cap:Nat) (k0 k1:Int) (s2:ByteArray) (a3:Option Addr) (l3 p3:Nat) (a4:Option Addr) (l4 p4:Nat)
 (w:World) (hb:b<w.heap.size)
 (hc0:w.cell? ⟨b,off,none⟩=some (.int .i64 k0)) (hc1:w.cell? ⟨b,off+1,none⟩=some (.int .i64 k1)) (hc2:w.cell? ⟨b,off+2,none⟩=some (.string s2)) (hc3:w.cell? ⟨b,off+3,none⟩=some (.slice a3 l3 p3)) (hc4:w.cell? ⟨b,off+4,none⟩=some (.slice a4 l4 p4)) :
 CallsIn F n Tryz.prog 46 #[.slice (some ⟨b,off,none⟩) 1 cap] w fun e W'=>e=.returned (.tuple #[.int .i64 0,.bool true])/\Below w.heap.size w W':=by
 have h1:1<=n:=by omega
 have hB0:Below w.heap.size w (w.alloc (.cells #[.slice (some ⟨b,off,none⟩) 1 cap] 23)):=(Below.refl _ w).alloc (Nat.le_refl _) _
 have hsz:(w.alloc (.cells #[.slice (some ⟨b,off,none⟩) 1 cap] 23)).heap.size=w.heap.size+1:=by simp
 have hcb:(w.alloc (.cells #[.slice (some ⟨b,off,none⟩) 1 cap] 23)).cell? ⟨w.heap.size,0,none⟩=some (.slice (some ⟨b,off,none⟩) 1 cap):=(Boxed.new w 23 (.slice (some ⟨b,off,none⟩) 1 cap)).cell
 have hh:=Tryz.chosen77_in F (n - 1) h77 h98 hro (by omega) 79 w.heap.size w.heap.size b off cap k0 k1 s2 a3 l3 p3 a4 l4 p4 hb _ (by omega) (by omega) hcb
  ((hB0.cell (p:=⟨b,off,none⟩) hb).trans hc0) ((hB0.cell (p:=⟨b,off+1,none⟩) hb).trans hc1) ((hB0.cell (p:=⟨b,off+2,none⟩) hb).trans hc2) ((hB0.cell (p:=⟨b,off+3,none⟩) hb).trans hc3) ((hB0.cell (p:=⟨b,off+4,none⟩) hb).trans hc4)
 refine callsIn_of_wp Tryz.func46 rfl h46 ?_ hro
 simp only [Tryz.ntmps46,List.size_toArray,List.length_cons,List.length_nil,Nat.reduceAdd,Nat.reduceSub,Array.replicate_succ,Array.replicate_zero,List.push_toArray,List.append_toArray,List.nil_append,List.cons_append]
 gi_wp2_with (gi_at_call 78;refine (Tryz.all78_in F (n - 1) h78 hro _ _ _ _).mono ?_;rintro e w' ⟨rfl,rfl⟩)
 refine hh.mono ?_
 rintro e w' ⟨rfl,hB⟩
 gi_wp2
 refine bodyPost_ret (v:=.tuple #[.int .i64 0,.bool true]) (by simp [results,Tryz.f46,go_sem]) rfl ?_
 exact ⟨rfl,hB0.trans (hB.mono (by omega))⟩
theorem Tryz.greatest47_in (F:Fence) (n:Nat) (h47:F.fn 47) (h78:F.fn 78) (h77:F.fn 77) (h98:F.fn 98) (hro:F.round=none) (hn:4<=n) (b off cap:Nat) (k0 k1:Int) (s2:ByteArray) (a3:Option Addr) (l3 p3:Nat) (a4:Option Addr) (l4 p4:Nat)
 (w:World) (hb:b<w.heap.size)
 (hc0:w.cell? ⟨b,off,none⟩=some (.int .i64 k0)) (hc1:w.cell? ⟨b,off+1,none⟩=some (.int .i64 k1)) (hc2:w.cell? ⟨b,off+2,none⟩=some (.string s2)) (hc3:w.cell? ⟨b,off+3,none⟩=some (.slice a3 l3 p3)) (hc4:w.cell? ⟨b,off+4,none⟩=some (.slice a4 l4 p4)) :
 CallsIn F n Tryz.prog 47 #[.slice (some ⟨b,off,none⟩) 1 cap] w fun e W'=>e=.returned (.tuple #[.int .i64 0,.bool true])/\Below w.heap.size w W':=by
 have h1:1<=n:=by omega
 have hB0:Below w.heap.size w (w.alloc (.cells #[.slice (some ⟨b,off,none⟩) 1 cap] 23)):=(Below.refl _ w).alloc (Nat.le_refl _) _
 have hsz:(w.alloc (.cells #[.slice (some ⟨b,off,none⟩) 1 cap] 23)).heap.size=w.heap.size+1:=by simp
 have hcb:(w.alloc (.cells #[.slice (some ⟨b,off,none⟩) 1 cap] 23)).cell? ⟨w.heap.size,0,none⟩=some (.slice (some ⟨b,off,none⟩) 1 cap):=(Boxed.new w 23 (.slice (some ⟨b,off,none⟩) 1 cap)).cell
 have hh:=Tryz.chosen77_in F (n - 1) h77 h98 hro (by omega) 80 w.heap.size w.heap.size b off cap k0 k1 s2 a3 l3 p3 a4 l4 p4 hb _ (by omega) (by omega) hcb
  ((hB0.cell (p:=⟨b,off,none⟩) hb).trans hc0) ((hB0.cell (p:=⟨b,off+1,none⟩) hb).trans hc1) ((hB0.cell (p:=⟨b,off+2,none⟩) hb).trans hc2) ((hB0.cell (p:=⟨b,off+3,none⟩) hb).trans hc3) ((hB0.cell (p:=⟨b,off+4,none⟩) hb).trans hc4)
 refine callsIn_of_wp Tryz.func47 rfl h47 ?_ hro
 simp only [Tryz.ntmps47,List.size_toArray,List.length_cons,List.length_nil,Nat.reduceAdd,Nat.reduceSub,Array.replicate_succ,Array.replicate_zero,List.push_toArray,List.append_toArray,List.nil_append,List.cons_append]
 gi_wp2_with (gi_at_call 78;refine (Tryz.all78_in F (n - 1) h78 hro _ _ _ _).mono ?_;rintro e w' ⟨rfl,rfl⟩)
 refine hh.mono ?_
 rintro e w' ⟨rfl,hB⟩
 gi_wp2
 refine bodyPost_ret (v:=.tuple #[.int .i64 0,.bool true]) (by simp [results,Tryz.f47,go_sem]) rfl ?_
 exact ⟨rfl,hB0.trans (hB.mono (by omega))⟩
end Go.Proofs

namespace Go.Ac
open Go Go.Proofs
theorem R.sl_cases {β:Nat->Plc} {D I:Nat->Prop} {H:Array Obj} {m:Bool} {n:Nat} {l:List AV} {v:Value} (h:R β D I H m (.sl n l []) v):∃ a p q,v=.slice a p q:=by
 cases h with
 | sl vs _ _ _ _ _ _ _ _ _ _=>exact ⟨_,_,_,rfl⟩
 | sl0=>exact ⟨_,_,_,rfl⟩
theorem one_read {β:Nat->Plc} {D I:Nat->Prop} {w:World} {x:JV} {v:Value} (hI:∀ b,I b->b<w.heap.size) (h:R β D I w.heap false (.sl 5 [encV x] []) v) :
 ∃ b off cap,∃ (k0 k1:Int) (s2:ByteArray) (a3:Option Addr) (l3 p3:Nat) (a4:Option Addr) (l4 p4:Nat),v=.slice (some ⟨b,off,none⟩) 1 cap/\b<w.heap.size ∧
  w.cell? ⟨b,off,none⟩=some (.int .i64 k0)/\w.cell? ⟨b,off+1,none⟩=some (.int .i64 k1)/\w.cell? ⟨b,off+2,none⟩=some (.string s2)/\w.cell? ⟨b,off+3,none⟩=some (.slice a3 l3 p3)/\w.cell? ⟨b,off+4,none⟩=some (.slice a4 l4 p4):=by
 cases h with
 | @sl m n els rest a cap arr T fz vs hi hs hH hn1 hn2 hcap hmax hv hone harr =>
  obtain ⟨b,off,sp⟩:=a
  cases hs
  rw [show flats [encV x]++flats []=[.val (.int .i64 x.kind),.val (.int .i64 x.int),.str x.text,.sl 1 (x.names.map AV.str) [],.sl 5 (x.items.map encV) []] from by rw [encV_eq];rfl] at hv
  cases hv with
  | cons r0 hv =>
  cases hv with
  | cons r1 hv =>
  cases hv with
  | cons r2 hv =>
  cases hv with
  | cons r3 hv =>
  cases hv with
  | cons r4 hv =>
  cases hv
  cases r0;cases r1;cases r2
  obtain ⟨a3,l3,p3,rfl⟩:=r3.sl_cases
  obtain ⟨a4,l4,p4,rfl⟩:=r4.sl_cases
  have cell:∀ (j:Nat) (u:Value),arr[off+j]?=some u->w.cell? ⟨b,off+j,none⟩=some u:=fun j u hu=>by
   simp only [World.cell?]
   rw [hH]
   simpa using hu
  exact ⟨b,off,cap,_,_,_,a3,l3,p3,a4,l4,p4,rfl,hI b hi,cell 0 _ (harr 0 _ rfl),cell 1 _ (harr 1 _ rfl),cell 2 _ (harr 2 _ rfl),cell 3 _ (harr 3 _ rfl),cell 4 _ (harr 4 _ rfl)⟩
theorem r_chosen {β:Nat->Plc} {D I:Nat->Prop} {H:Array Obj}:R β D I H false (.tup [.val (.int .i64 0),.val (.bool true)]) (.tuple #[.int .i64 0,.bool true]) :=
 .tup (.cons (.val _ _) (.cons (.val _ _) (.nil _)))
theorem pure46 (W:World) (x:JV):Pure Tryz.prog W 46 [.sl 5 [encV x] []] (.tup [.val (.int .i64 0),.val (.bool true)]):=fun β D I w vs hO hI hr=>by
 cases hr with
 | cons r hr =>
 cases hr
 obtain ⟨b,off,cap,k0,k1,s2,a3,l3,p3,a4,l4,p4,rfl,hb,c0,c1,c2,c3,c4⟩:=one_read hI r
 refine (callsIn_wide.1 (Tryz.least46_in Fence.wide 4 trivial trivial trivial trivial rfl (by omega) b off cap k0 k1 s2 a3 l3 p3 a4 l4 p4 w hb c0 c1 c2 c3 c4)).mono ?_
 rintro e W' ⟨rfl,hB⟩
 exact ⟨I,_,rfl,r_chosen,ext_below hB (fun b hb=>hI b hb)⟩
theorem pure47 (W:World) (x:JV):Pure Tryz.prog W 47 [.sl 5 [encV x] []] (.tup [.val (.int .i64 0),.val (.bool true)]):=fun β D I w vs hO hI hr=>by
 cases hr with
 | cons r hr =>
 cases hr
 obtain ⟨b,off,cap,k0,k1,s2,a3,l3,p3,a4,l4,p4,rfl,hb,c0,c1,c2,c3,c4⟩:=one_read hI r
 refine (callsIn_wide.1 (Tryz.greatest47_in Fence.wide 4 trivial trivial trivial trivial rfl (by omega) b off cap k0 k1 s2 a3 l3 p3 a4 l4 p4 w hb c0 c1 c2 c3 c4)).mono ?_
 rintro e W' ⟨rfl,hB⟩
 exact ⟨I,_,rfl,r_chosen,ext_below hB (fun b hb=>hI b hb)⟩
end Go.Ac

set_option maxRecDepth 10000
set_option maxHeartbeats 4000000
namespace Go.Ac
open Go Go.Proofs
def V1 (n:Int):AV:=AV.agg [AV.val (Value.int IntKind.i64 3),AV.val (Value.int IntKind.i64 n),AV.str [],AV.val (Value.slice none 0 0),AV.val (Value.slice none 0 0)]
def C1 (k:Nat) (n:Int):OutC:=.ret (.tup [.val (.int .i64 0),.val (.bool true)]) [(k,GE.arr 25 5 [V1 n] St.own)]
def L6 (n:Int):List (Nat×GE):=[(100045,GE.arr 25 5 [V1 n] St.own)]
theorem v1_le (n:Int):LeL [.sl 5 [V1 n] []] [.sl 5 [encV (.mk ⟨3,n,[],[]⟩ [])] []] :=
 .cons (.els (.cons (.agg (.cons (.refl _) (.cons (.refl _) (.cons (.refl _) (.cons (.nil 1) (.cons (.nil 5) .nil)))))) .nil) (fun e he=>by obtain rfl:=List.mem_singleton.1 he;rfl)) .nil
theorem frz6 (n:Int):∀ p ∈ L6 n,hg (L6 n) p.1=some p.2/\Frzable p.2:=fun p hp=>by
 obtain rfl:=List.mem_singleton.1 hp
 exact ⟨rfl,by first|trivial|exact ⟨rfl,rfl⟩|simp [Frzable]⟩
theorem told46 (W:World) (n:Int):MutC Tryz.prog W 46 [AV.gs 100045 0 1] (L6 n) (C1 100045 n) :=
 mut_of_pureFlat (frz6 n) (by rfl) (by rfl) (by rfl) (pure_le (v1_le n) (pure46 W _))
theorem told47 (W:World) (n:Int):MutC Tryz.prog W 47 [AV.gs 100045 0 1] (L6 n) (C1 100045 n) :=
 mut_of_pureFlat (frz6 n) (by rfl) (by rfl) (by rfl) (pure_le (v1_le n) (pure47 W _))
theorem call9:callable Tryz.prog 9=true:=kr
theorem run9 (W:World):sfun Tryz.prog W {tl:=[46,47]} 1000 30 9 [] [] 100000 [Ans.ev 10000000,Ans.call (C1 100045 2),Ans.ev 10000000,Ans.call (C1 100045 2),Ans.ev 10000000,Ans.call (C1 100045 1),Ans.ev 10000000,Ans.call (C1 100045 1),Ans.ev 10000000] [] =
 .ok (OutC.ret (AV.val (Value.bool true)) [],[Ans.ev 9999866],[MutC Tryz.prog W 47 [AV.gs 100045 0 1] (L6 1) (C1 100045 1),MutC Tryz.prog W 46 [AV.gs 100045 0 1] (L6 1) (C1 100045 1),MutC Tryz.prog W 47 [AV.gs 100045 0 1] (L6 2) (C1 100045 2),MutC Tryz.prog W 46 [AV.gs 100045 0 1] (L6 2) (C1 100045 2)]):=kr
theorem live9 (W:World):Pure Tryz.prog W 9 [] (.val (.bool true)) :=
 pure_of_mut rfl (mut_of_sfun mixedz call9 rfl (run9 W) ⟨told47 W 1,told46 W 1,told47 W 2,told46 W 2,trivial⟩)
end Go.Ac

namespace Go.Ac
open Go Go.Proofs
set_option maxRecDepth 10000
set_option maxHeartbeats 1000000
theorem Fr1_z1 {cs} (h:Holds cs:=by simp only [Holds,and_true]<;>and_intros<;>first|exact zd):Holds cs:=h
def S60 (h:JH) (l:List JV) (m n i:Int):AS:=⟨[(1,iA m),(2,.gp 100000 0),(5,iA n),(6,iA i)],[(100000,.box (encV (.mk h l)) .own)]⟩
theorem b60_0 (W:World) (h:JH) (l:List JV) (m n i:Int) (h1:JH) (l1:List JV) (x:Int):sbody Tryz.prog W {tl:=[26],lp:=true} 26 0 [] [1,2,5,6] (S60 h l m n i) [bt,bt,bt,bt,bt,.lg,oS (eV h1 l1),ee,cR (iA x) [],ee]=.ok ((.normal,{t:=[(1,iA m),(2,.gp 100000 0),(5,.val (Value.int IntKind.i64 (IntKind.i64.wrap (n+x)))),(6,.val (Value.int IntKind.i64 (IntKind.i64.wrap (i+1))))],h:=[(100000,gB (eV h l))]}),[ee],MZ W 26 [.agg [.val (Value.int IntKind.i64 h1.kind),.val (Value.int IntKind.i64 h1.int),.str h1.3,sL 1 (List.map AV.str h1.names),sL 5 (encVs l1)],.val (Value.int IntKind.i64 (IntKind.i64.wrap (m - n)))] [] (.ret (iA x) [])::((encVs l)[i.toNat]?=some (eV h1 l1))::(0<=i)::(decide (n<=m)=true)::(d4 (decide (i<(↑(encVs l).length:Int))=true) [])):=kr
theorem b60_1 (W:World) (h:JH) (l:List JV) (m n i:Int):sbody Tryz.prog W {tl:=[26],lp:=true} 26 0 [] [1,2,5,6] (S60 h l m n i) [bt,bt,bt,bt,bf,ee]=.ok ((.exit 0,{t:=[(1,iA m),(2,.gp 100000 0),(5,iA n),(6,iA i)],h:=[(100000,gB (eV h l))]}),[ee],(decide (n<=m)=false)::(d4 (decide (i<(↑(encVs l).length:Int))=true) [])):=kr
theorem b60_2 (W:World) (h:JH) (l:List JV) (m n i:Int):sbody Tryz.prog W {tl:=[26],lp:=true} 26 0 [] [1,2,5,6] (S60 h l m n i) [bf,bf,bf,bf,ee]=.ok ((.exit 0,{t:=[(1,iA m),(2,.gp 100000 0),(5,iA n),(6,iA i)],h:=[(100000,gB (eV h l))]}),[aE 9999999],d4 (decide (i<(↑(encVs l).length:Int))=false) []):=kr
theorem e60_1 (W:World) (h:JH) (l:List JV) (m n i:Int):sbody Tryz.prog W {tl:=[26],lp:=true} 26 0 [] [5] (S60 h l m n i) [bt,bt,bt,bt,bf,ee]=.ok ((.exit 0,{t:=[(5,iA n)],h:=[]}),[ee],(decide (n<=m)=false)::(d4 (decide (i<(↑(encVs l).length:Int))=true) [])):=kr
theorem e60_2 (W:World) (h:JH) (l:List JV) (m n i:Int):sbody Tryz.prog W {tl:=[26],lp:=true} 26 0 [] [5] (S60 h l m n i) [bf,bf,bf,bf,ee]=.ok ((.exit 0,{t:=[(5,iA n)],h:=[]}),[aE 9999999],d4 (decide (i<(↑(encVs l).length:Int))=false) []):=kr
theorem p60_0 (W:World) (h:JH) (l:List JV) (m r:Int):sfun Tryz.prog W {tl:=[26],lp:=true} 1000 5 26 [eV h l,iA m] [] 100000 [ee,Ans.loop [1,2,5,6] (.exit 0) {t:=[(5,iA r)],h:=[]},ee] []=.ok (.ret (.val (Value.int IntKind.i64 r)) [],[ee],[LZ W [] 26 0 {t:=[(1,iA m),(2,.gp 100000 0),(5,.val (Value.int IntKind.i64 (IntKind.i64.wrap (1+(↑(List.map AV.str h.names).length:Int))))),(6,.val (Value.int IntKind.i64 0))],h:=[(100000,gB (.agg [.val (Value.int IntKind.i64 h.kind),.val (Value.int IntKind.i64 h.int),.str h.3,sL 1 (List.map AV.str h.names),sL 5 (encVs l)]))]} (.exit 0) {t:=[(5,iA r)],h:=[]}]):=kr
theorem call60:callable Tryz.prog 26=true:=kr
theorem loop60 (W:World) (h:JH) (l:List JV) (m r:Int) (hm:0<=m) (hm2:m<=2 ^ 32) (hv:okVs l) (hl:l.length<=2 ^ 50)
 (ih:∀ (i:Nat) (x:JV) (k:Int),l[i]?=some x->0<=k->k<=2 ^ 32->Pure Tryz.prog W 26 [encV x,iA k] (iA (partsV x k))) :
 ∀ q:Nat×Int,(q.1<=l.length/\r=partsL (l.drop q.1) m q.2/\1<=q.2/\q.2<=m+1+2 ^ 50)->LoopC Tryz.prog W [] (nslots Tryz.prog 26) (loopOf Tryz.prog 26 0) (S60 h l m q.2 q.1) (.exit 0) ⟨[(5,iA r)],[]⟩:=by
 refine loopC_inv (fun q:Nat×Int=>S60 h l m q.2 q.1) (fun q=>q.1<=l.length/\r=partsL (l.drop q.1) m q.2/\1<=q.2/\q.2<=m+1+2 ^ 50) (fun q=>l.length - q.1) (by simp) ?_
 rintro ⟨i,n⟩ ⟨h1,h2,h3,h4⟩
 simp only at h1 h2 h3 h4 ⊢
 by_cases hi:i<l.length
 ·obtain ⟨x,hx⟩:=getOf hi
  have hp:=partsL_bd
  by_cases hn:n<=m
  ·left
   have hb:=partsV_bd x (m - n) (okVs_get hv hx) (by omega)
   have hih:=ih i x (m - n) hx (by omega) (by omega)
   refine ⟨(i+1,n+partsV x (m - n)),⟨by simp only;omega,?_,by simp only;omega,by simp only;omega⟩,by simp only;omega,?_⟩
   ·rw [h2,drop_get hx,partsL,if_pos hn]
   ·cases x with
    | mk h1 l1 =>
     refine body_of_sbody mixedz (b60_0 W h l m n i h1 l1 (partsV (.mk h1 l1) (m - n))) (by simp only [Holds,and_true];all_goals (and_intros<;>first|exact .inl trivial|(rw [Int.toNat_natCast];exact encVs_get hx;done)|(rw [wrap_in (by omega)];exact mut_of_pure (by rfl) hih;done) |exact trivial|assumption|(simp only [decide_eq_true_eq,decide_eq_false_iff_not,Bool.not_eq_true',Bool.not_eq_false',encVs_len,List.length_map];omega)|omega)) ?_
     rw [wrap_in (by omega),wrap_in (by omega)];rfl
  ·right
   refine body_of_sbody mixedz (e60_1 W h l m n i) Fr1_z1 ?_
   rw [h2,drop_get hx,partsL,if_neg hn]
 ·right
  refine body_of_sbody mixedz (e60_2 W h l m n i) Fr1_z1 ?_
  rw [h2,List.drop_of_length_le (by omega)];rfl
theorem parts60 (W:World):∀ (k:Nat) (v:JV) (m:Int),sizeV v<k->okV v->0<=m->m<=2 ^ 32->Pure Tryz.prog W 26 [encV v,iA m] (iA (partsV v m))
 | 0,_,_,h,_,_,_=>by omega
 | k+1,.mk h l,m,hk,hv,h1,h2=>by
  have hn:=okV_nm hv
  have hl:=okV_ln hv
  simp only [JV.names,JV.hd,JV.items] at hn hl
  have hlp:=loop60 W h l m (partsV (.mk h l) m) h1 h2 hv.2.2 hl (fun i x k' hx h3 h4=>parts60 W k x k' (by have:=sizeV_item (v:=.mk h l) hx;omega) (okVs_get hv.2.2 hx) h3 h4) (0,1+h.names.length) ⟨by simp,by simp only [List.drop_zero];rfl,by simp only;omega,by simp only;omega⟩
  refine pure_of_mut rfl (mut_of_sfun mixedz call60 rfl (p60_0 W h l m (partsV (.mk h l) m)) ⟨?_,trivial⟩)
  rw [wrap_in (by simp only [List.length_map];omega),List.length_map]
  exact hlp
theorem parts (W:World) (v:JV) (m:Int) (hv:okV v) (h1:0<=m) (h2:m<=2 ^ 32):Pure Tryz.prog W 26 [encV v,iA m] (iA (partsV v m)):=parts60 W _ v m (Nat.lt_succ_self _) hv h1 h2
end Go.Ac

namespace Go.Ac
open Go Go.Proofs
set_option maxRecDepth 10000
set_option maxHeartbeats 1000000
theorem Fr3_z1 {kp f ph σ σ'} (h:MatchK kp f ph σ σ':=by exact ⟨by rfl,(by simp only [S67,H67,R67,tOK,List.map_cons,List.map_nil,and_true]<;>exact zt),(by simp only [S67,H67,R67,hOK,List.map_cons,List.map_nil,and_true]<;>exact zh),(by simp only [S67,H67,R67,liveT,List.map_cons,List.map_nil,and_true]<;>exact zv),(by simp only [S67,H67,R67,liveH,List.map_cons,List.map_nil,and_true]<;>exact zv)⟩):MatchK kp f ph σ σ':=h
theorem Fr3_z3 {cs} (h:Holds cs:=by simp only [Holds,and_true]<;>and_intros<;>first|exact zd|(simp only [Bool.not_eq_true',decide_eq_false_iff_not,Bool.not_eq_false',decide_eq_true_eq,Bool.not_true,Bool.not_false];done)|(exact hn;done)|(exact hi;done)|(simp only [Bool.not_eq_true',decide_eq_false_iff_not,Bool.not_eq_false',decide_eq_true_eq,Bool.not_true,Bool.not_false];first|assumption|rfl|omega;done)|(rw [Int.toNat_natCast];first|exact strs_get hx|exact strs_get hy|exact encVs_get hx|exact encVs_get hy;done)|(exact mut_of_pure (by rfl) hih;done)|(simp only [Bool.not_eq_true',decide_eq_false_iff_not,Bool.not_eq_false',decide_eq_true_eq,Bool.not_true,Bool.not_false];simp only [encVs_len,List.length_map,Int.natCast_inj];first|assumption|omega;done)|(simp only [decide_eq_true_eq,decide_eq_false_iff_not,Bool.not_eq_true',Bool.not_eq_false',encVs_len,List.length_map];omega)):Holds cs:=h
theorem Fr3_z4 {cs} (h:Holds cs:=by simp only [Holds,and_true]<;>and_intros<;>first|exact zd|(simp only [Bool.not_eq_true',decide_eq_false_iff_not,Bool.not_eq_false',decide_eq_true_eq,Bool.not_true,Bool.not_false];done)|(exact hn;done)|(exact hi;done)|(simp only [Bool.not_eq_true',decide_eq_false_iff_not,Bool.not_eq_false',decide_eq_true_eq,Bool.not_true,Bool.not_false];first|assumption|rfl|omega;done)|(rw [Int.toNat_natCast];first|exact strs_get hx|exact strs_get hy|exact encVs_get hx|exact encVs_get hy;done)|(exact mut_of_pure (by rfl) hih;done)|(simp only [Bool.not_eq_true',decide_eq_false_iff_not,Bool.not_eq_false',decide_eq_true_eq,Bool.not_true,Bool.not_false];simp only [encVs_len,List.length_map,Int.natCast_inj];first|assumption|omega;done)|exact Fr3_z1|(simp only [decide_eq_true_eq,decide_eq_false_iff_not,Bool.not_eq_true',Bool.not_eq_false',encVs_len,List.length_map];omega)):Holds cs:=h
def H67 (h:JH) (l:List JV) (g:JH) (k:List JV):List (Nat×GE):=[(100000,.box (encV (.mk h l)) .own),(100001,.box (encV (.mk g k)) .own)]
def S67 (h:JH) (l:List JV) (g:JH) (k:List JV) (s i:Nat):AS:=⟨[(2,.gp 100000 0),(3,.gp 100001 0),(s,iA i)],H67 h l g k⟩
def R67:AS:=⟨[(4,bA false)],[]⟩
theorem n67_0 (W:World) (h:JH) (l:List JV) (g:JH) (k:List JV) (i:Nat) (x y:List UInt8):sbodyM Tryz.prog W {tl:=[42],lp:=true} 42 0 [] (S67 h l g k 5 i) [bt,aE 1,oS (.str x),aE 1,oS (.str y),bt,ee]=.ok ((.ret,{t:=[(2,.gp 100000 0),(3,.gp 100001 0),(4,.val (Value.bool false)),(5,iA (i:Int)),(44,.val (Value.int IntKind.i64 (i:Int))),(45,.gp 100000 3),(46,sL 1 (List.map AV.str h.names)),(47,.val (Value.int IntKind.i64 (↑(List.map AV.str h.names).length:Int))),(48,.val (Value.bool (decide ((i:Int)<(↑(List.map AV.str h.names).length:Int))))),(51,.gp 100000 3),(52,sL 1 (List.map AV.str h.names)),(53,.val (Value.int IntKind.i64 (i:Int))),(54,(AV.str x).ip 0),(55,.str x),(56,.gp 100001 3),(57,sL 1 (List.map AV.str g.names)),(58,.val (Value.int IntKind.i64 (i:Int))),(59,(AV.str y).ip 0),(60,.str y),(61,.val (Value.bool !decide (x=y)))],h:=[(100000,gB (eV h l)),(100001,gB (eV g k))]}),[ee],[(!decide (x=y))=true,(List.map AV.str g.names)[(i:Int).toNat]?=some (AV.str y),(List.map AV.str h.names)[(i:Int).toNat]?=some (AV.str x),decide ((i:Int)<(↑(List.map AV.str h.names).length:Int))=true]):=kr
theorem n67_1 (W:World) (h:JH) (l:List JV) (g:JH) (k:List JV) (i:Nat) (x y:List UInt8):sbodyM Tryz.prog W {tl:=[42],lp:=true} 42 0 [] (S67 h l g k 5 i) [bt,aE 1,oS (.str x),aE 1,oS (.str y),bf,ee]=.ok ((.normal,{t:=[(2,.gp 100000 0),(3,.gp 100001 0),(5,.val (Value.int IntKind.i64 (IntKind.i64.wrap ((i:Int)+1)))),(44,.val (Value.int IntKind.i64 (i:Int))),(45,.gp 100000 3),(46,sL 1 (List.map AV.str h.names)),(47,.val (Value.int IntKind.i64 (↑(List.map AV.str h.names).length:Int))),(48,.val (Value.bool (decide ((i:Int)<(↑(List.map AV.str h.names).length:Int))))),(49,.val (Value.int IntKind.i64 (i:Int))),(50,.val (Value.int IntKind.i64 (IntKind.i64.wrap ((i:Int)+1)))),(51,.gp 100000 3),(52,sL 1 (List.map AV.str h.names)),(53,.val (Value.int IntKind.i64 (i:Int))),(54,(AV.str x).ip 0),(55,.str x),(56,.gp 100001 3),(57,sL 1 (List.map AV.str g.names)),(58,.val (Value.int IntKind.i64 (i:Int))),(59,(AV.str y).ip 0),(60,.str y),(61,.val (Value.bool !decide (x=y)))],h:=[(100000,gB (eV h l)),(100001,gB (eV g k))]}),[ee],[(!decide (x=y))=false,(List.map AV.str g.names)[(i:Int).toNat]?=some (AV.str y),(List.map AV.str h.names)[(i:Int).toNat]?=some (AV.str x),decide ((i:Int)<(↑(List.map AV.str h.names).length:Int))=true]):=kr
theorem n67_2 (W:World) (h:JH) (l:List JV) (g:JH) (k:List JV) (i:Nat):sbodyM Tryz.prog W {tl:=[42],lp:=true} 42 0 [] (S67 h l g k 5 i) [bf,ee]=.ok ((.exit 0,{t:=[(2,.gp 100000 0),(3,.gp 100001 0),(5,iA (i:Int)),(44,.val (Value.int IntKind.i64 (i:Int))),(45,.gp 100000 3),(46,sL 1 (List.map AV.str h.names)),(47,.val (Value.int IntKind.i64 (↑(List.map AV.str h.names).length:Int))),(48,.val (Value.bool (decide ((i:Int)<(↑(List.map AV.str h.names).length:Int)))))],h:=[(100000,gB (eV h l)),(100001,gB (eV g k))]}),[ee],[decide ((i:Int)<(↑(List.map AV.str h.names).length:Int))=false]):=kr
theorem i67_0 (W:World) (h:JH) (l:List JV) (g:JH) (k:List JV) (i:Nat) (h1:JH) (l1:List JV) (h2:JH) (l2:List JV) (b:Bool):sbodyM Tryz.prog W {tl:=[42],lp:=true} 42 1 [] (S67 h l g k 6 i) [bt,aE 1,oS (eV h1 l1),aE 1,oS (eV h2 l2),ee,cR (bA b) [],bt,ee]=.ok ((.ret,{t:=[(2,.gp 100000 0),(3,.gp 100001 0),(4,.val (Value.bool false)),(6,iA (i:Int)),(62,.val (Value.int IntKind.i64 (i:Int))),(63,.gp 100000 4),(64,sL 5 (encVs l)),(65,.val (Value.int IntKind.i64 (↑(encVs l).length:Int))),(66,.val (Value.bool (decide ((i:Int)<(↑(encVs l).length:Int))))),(69,.gp 100000 4),(70,sL 5 (encVs l)),(71,.val (Value.int IntKind.i64 (i:Int))),(72,(eV h1 l1).ip 0),(73,.agg [.val (Value.int IntKind.i64 h1.kind),.val (Value.int IntKind.i64 h1.int),.str h1.3,sL 1 (List.map AV.str h1.names),sL 5 (encVs l1)]),(74,.gp 100001 4),(75,sL 5 (encVs k)),(76,.val (Value.int IntKind.i64 (i:Int))),(77,(eV h2 l2).ip 0),(78,.agg [.val (Value.int IntKind.i64 h2.kind),.val (Value.int IntKind.i64 h2.int),.str h2.3,sL 1 (List.map AV.str h2.names),sL 5 (encVs l2)]),(79,.val (Value.bool b)),(80,.val (Value.bool !b))],h:=[(100000,gB (eV h l)),(100001,gB (eV g k))]}),[ee],[(!b)=true,MZ W 42 [.agg [.val (Value.int IntKind.i64 h1.kind),.val (Value.int IntKind.i64 h1.int),.str h1.3,sL 1 (List.map AV.str h1.names),sL 5 (encVs l1)],.agg [.val (Value.int IntKind.i64 h2.kind),.val (Value.int IntKind.i64 h2.int),.str h2.3,sL 1 (List.map AV.str h2.names),sL 5 (encVs l2)]] [] (.ret (bA b) []),(encVs k)[(i:Int).toNat]?=some (eV h2 l2),(encVs l)[(i:Int).toNat]?=some (eV h1 l1),decide ((i:Int)<(↑(encVs l).length:Int))=true]):=kr
theorem i67_1 (W:World) (h:JH) (l:List JV) (g:JH) (k:List JV) (i:Nat) (h1:JH) (l1:List JV) (h2:JH) (l2:List JV) (b:Bool):sbodyM Tryz.prog W {tl:=[42],lp:=true} 42 1 [] (S67 h l g k 6 i) [bt,aE 1,oS (eV h1 l1),aE 1,oS (eV h2 l2),ee,cR (bA b) [],bf,ee]=.ok ((.normal,{t:=[(2,.gp 100000 0),(3,.gp 100001 0),(6,.val (Value.int IntKind.i64 (IntKind.i64.wrap ((i:Int)+1)))),(62,.val (Value.int IntKind.i64 (i:Int))),(63,.gp 100000 4),(64,sL 5 (encVs l)),(65,.val (Value.int IntKind.i64 (↑(encVs l).length:Int))),(66,.val (Value.bool (decide ((i:Int)<(↑(encVs l).length:Int))))),(67,.val (Value.int IntKind.i64 (i:Int))),(68,.val (Value.int IntKind.i64 (IntKind.i64.wrap ((i:Int)+1)))),(69,.gp 100000 4),(70,sL 5 (encVs l)),(71,.val (Value.int IntKind.i64 (i:Int))),(72,(eV h1 l1).ip 0),(73,.agg [.val (Value.int IntKind.i64 h1.kind),.val (Value.int IntKind.i64 h1.int),.str h1.3,sL 1 (List.map AV.str h1.names),sL 5 (encVs l1)]),(74,.gp 100001 4),(75,sL 5 (encVs k)),(76,.val (Value.int IntKind.i64 (i:Int))),(77,(eV h2 l2).ip 0),(78,.agg [.val (Value.int IntKind.i64 h2.kind),.val (Value.int IntKind.i64 h2.int),.str h2.3,sL 1 (List.map AV.str h2.names),sL 5 (encVs l2)]),(79,.val (Value.bool b)),(80,.val (Value.bool !b))],h:=[(100000,gB (eV h l)),(100001,gB (eV g k))]}),[ee],[(!b)=false,MZ W 42 [.agg [.val (Value.int IntKind.i64 h1.kind),.val (Value.int IntKind.i64 h1.int),.str h1.3,sL 1 (List.map AV.str h1.names),sL 5 (encVs l1)],.agg [.val (Value.int IntKind.i64 h2.kind),.val (Value.int IntKind.i64 h2.int),.str h2.3,sL 1 (List.map AV.str h2.names),sL 5 (encVs l2)]] [] (.ret (bA b) []),(encVs k)[(i:Int).toNat]?=some (eV h2 l2),(encVs l)[(i:Int).toNat]?=some (eV h1 l1),decide ((i:Int)<(↑(encVs l).length:Int))=true]):=kr
theorem i67_2 (W:World) (h:JH) (l:List JV) (g:JH) (k:List JV) (i:Nat):sbodyM Tryz.prog W {tl:=[42],lp:=true} 42 1 [] (S67 h l g k 6 i) [bf,ee]=.ok ((.exit 2,{t:=[(2,.gp 100000 0),(3,.gp 100001 0),(6,iA (i:Int)),(62,.val (Value.int IntKind.i64 (i:Int))),(63,.gp 100000 4),(64,sL 5 (encVs l)),(65,.val (Value.int IntKind.i64 (↑(encVs l).length:Int))),(66,.val (Value.bool (decide ((i:Int)<(↑(encVs l).length:Int)))))],h:=[(100000,gB (eV h l)),(100001,gB (eV g k))]}),[ee],[decide ((i:Int)<(↑(encVs l).length:Int))=false]):=kr
theorem q67_0 (W:World) (h:JH) (l:List JV) (g:JH) (k:List JV):sfun Tryz.prog W {tl:=[42],lp:=true} 1000 5 42 [eV h l,eV g k] [] 100000 [bt,bt,bt,bt,bt,bt,ee] []=.ok (.ret (.val (Value.bool false)) [],[aE 9999977],d6 ((!decide (h.kind=g.kind))=true) []):=kr
theorem q67_1 (W:World) (h:JH) (l:List JV) (g:JH) (k:List JV):sfun Tryz.prog W {tl:=[42],lp:=true} 1000 5 42 [eV h l,eV g k] [] 100000 [bf,bf,bf,bf,bf,bf,bt,bt,bt,bt,bt,bt,ee] []=.ok (.ret (.val (Value.bool false)) [],[aE 9999983],d6 ((!decide (h.int=g.int))=true) (d6 ((!decide (h.kind=g.kind))=false) [])):=kr
theorem q67_2 (W:World) (h:JH) (l:List JV) (g:JH) (k:List JV):sfun Tryz.prog W {tl:=[42],lp:=true} 1000 5 42 [eV h l,eV g k] [] 100000 [bf,bf,bf,bf,bf,bf,bf,bf,bf,bf,bf,bf,bt,bt,bt,bt,bt,bt,bt,bt,ee] []=.ok (.ret (.val (Value.bool false)) [],[aE 9999991],d2 ((!decide (h.text=g.text))=true) (d6 ((!decide (h.text=g.text))=true) (d6 ((!decide (h.int=g.int))=false) (d6 ((!decide (h.kind=g.kind))=false) [])))):=kr
theorem q67_3 (W:World) (h:JH) (l:List JV) (g:JH) (k:List JV):sfun Tryz.prog W {tl:=[42],lp:=true} 1000 5 42 [eV h l,eV g k] [] 100000 [bf,bf,bf,bf,bf,bf,bf,bf,bf,bf,bf,bf,bf,bf,bf,bf,bf,bf,bf,bf,bt,bt,bt,bt,bt,bt,bt,bt,ee] []=.ok (.ret (.val (Value.bool false)) [],[aE 9999999],d2 ((!decide ((↑(List.map AV.str h.names).length:Int)=(↑(List.map AV.str g.names).length:Int)))=true) (d6 ((!decide ((↑(List.map AV.str h.names).length:Int)=(↑(List.map AV.str g.names).length:Int)))=true) (d2 ((!decide (h.text=g.text))=false) (d6 ((!decide (h.text=g.text))=false) (d6 ((!decide (h.int=g.int))=false) (d6 ((!decide (h.kind=g.kind))=false) [])))))):=kr
theorem q67_4 (W:World) (h:JH) (l:List JV) (g:JH) (k:List JV):sfun Tryz.prog W {tl:=[42],lp:=true} 1000 5 42 [eV h l,eV g k] [] 100000 [bf,bf,bf,bf,bf,bf,bf,bf,bf,bf,bf,bf,bf,bf,bf,bf,bf,bf,bf,bf,bf,bf,bf,bf,bf,bf,bf,bf,bt,ee] []=.ok (.ret (.val (Value.bool false)) [],[ee],((!decide ((↑(encVs l).length:Int)=(↑(encVs k).length:Int)))=true)::(d2 ((!decide ((↑(List.map AV.str h.names).length:Int)=(↑(List.map AV.str g.names).length:Int)))=false) (d6 ((!decide ((↑(List.map AV.str h.names).length:Int)=(↑(List.map AV.str g.names).length:Int)))=false) (d2 ((!decide (h.text=g.text))=false) (d6 ((!decide (h.text=g.text))=false) (d6 ((!decide (h.int=g.int))=false) (d6 ((!decide (h.kind=g.kind))=false) []))))))):=kr
theorem q67_5 (W:World) (h:JH) (l:List JV) (g:JH) (k:List JV) (i j:Nat):sfun Tryz.prog W {tl:=[42],lp:=true} 1000 5 42 [eV h l,eV g k] [] 100000 [bf,bf,bf,bf,bf,bf,bf,bf,bf,bf,bf,bf,bf,bf,bf,bf,bf,bf,bf,bf,bf,bf,bf,bf,bf,bf,bf,bf,bf,ee,.loopM [] [] (S67 h l g k 5 0) (.exit 0) (S67 h l g k 5 i),ee,.loopM [] [] (S67 h l g k 6 0) (.exit 2) (S67 h l g k 6 j),ee] []=.ok (.ret (.val (Value.bool true)) [],[ee],LZ W [] 42 1 (S67 h l g k 6 0) (.exit 2) (S67 h l g k 6 j)::MatchK [] [] [] {t:=[(2,.gp 100000 0),(3,.gp 100001 0),(6,.val (Value.int IntKind.i64 0))],h:=[(100000,gB (eV h l)),(100001,gB (eV g k))]} (S67 h l g k 6 0)::LZ W [] 42 0 (S67 h l g k 5 0) (.exit 0) (S67 h l g k 5 i)::MatchK [] [] [] {t:=[(2,.gp 100000 0),(3,.gp 100001 0),(5,.val (Value.int IntKind.i64 0))],h:=[(100000,gB (.agg [.val (Value.int IntKind.i64 h.kind),.val (Value.int IntKind.i64 h.int),.str h.3,sL 1 (List.map AV.str h.names),sL 5 (encVs l)])),(100001,gB (.agg [.val (Value.int IntKind.i64 g.kind),.val (Value.int IntKind.i64 g.int),.str g.3,sL 1 (List.map AV.str g.names),sL 5 (encVs k)]))]} (S67 h l g k 5 0)::((!decide ((↑(encVs l).length:Int)=(↑(encVs k).length:Int)))=false)::(d2 ((!decide ((↑(List.map AV.str h.names).length:Int)=(↑(List.map AV.str g.names).length:Int)))=false) (d6 ((!decide ((↑(List.map AV.str h.names).length:Int)=(↑(List.map AV.str g.names).length:Int)))=false) (d2 ((!decide (h.text=g.text))=false) (d6 ((!decide (h.text=g.text))=false) (d6 ((!decide (h.int=g.int))=false) (d6 ((!decide (h.kind=g.kind))=false) []))))))):=kr
theorem r67_5 (W:World) (h:JH) (l:List JV) (g:JH) (k:List JV):sfun Tryz.prog W {tl:=[42],lp:=true} 1000 5 42 [eV h l,eV g k] [] 100000 [bf,bf,bf,bf,bf,bf,bf,bf,bf,bf,bf,bf,bf,bf,bf,bf,bf,bf,bf,bf,bf,bf,bf,bf,bf,bf,bf,bf,bf,ee,.loopM [] [] (S67 h l g k 5 0) .ret R67,ee] []=.ok (.ret (.val (Value.bool false)) [],[ee],LZ W [] 42 0 (S67 h l g k 5 0) .ret R67::MatchK [] [] [] {t:=[(2,.gp 100000 0),(3,.gp 100001 0),(5,.val (Value.int IntKind.i64 0))],h:=[(100000,gB (.agg [.val (Value.int IntKind.i64 h.kind),.val (Value.int IntKind.i64 h.int),.str h.3,sL 1 (List.map AV.str h.names),sL 5 (encVs l)])),(100001,gB (.agg [.val (Value.int IntKind.i64 g.kind),.val (Value.int IntKind.i64 g.int),.str g.3,sL 1 (List.map AV.str g.names),sL 5 (encVs k)]))]} (S67 h l g k 5 0)::((!decide ((↑(encVs l).length:Int)=(↑(encVs k).length:Int)))=false)::(d2 ((!decide ((↑(List.map AV.str h.names).length:Int)=(↑(List.map AV.str g.names).length:Int)))=false) (d6 ((!decide ((↑(List.map AV.str h.names).length:Int)=(↑(List.map AV.str g.names).length:Int)))=false) (d2 ((!decide (h.text=g.text))=false) (d6 ((!decide (h.text=g.text))=false) (d6 ((!decide (h.int=g.int))=false) (d6 ((!decide (h.kind=g.kind))=false) []))))))):=kr
theorem s67_5 (W:World) (h:JH) (l:List JV) (g:JH) (k:List JV) (i:Nat):sfun Tryz.prog W {tl:=[42],lp:=true} 1000 5 42 [eV h l,eV g k] [] 100000 [bf,bf,bf,bf,bf,bf,bf,bf,bf,bf,bf,bf,bf,bf,bf,bf,bf,bf,bf,bf,bf,bf,bf,bf,bf,bf,bf,bf,bf,ee,.loopM [] [] (S67 h l g k 5 0) (.exit 0) (S67 h l g k 5 i),ee,.loopM [] [] (S67 h l g k 6 0) .ret R67,ee] []=.ok (.ret (.val (Value.bool false)) [],[ee],LZ W [] 42 1 (S67 h l g k 6 0) .ret R67::MatchK [] [] [] {t:=[(2,.gp 100000 0),(3,.gp 100001 0),(6,.val (Value.int IntKind.i64 0))],h:=[(100000,gB (eV h l)),(100001,gB (eV g k))]} (S67 h l g k 6 0)::LZ W [] 42 0 (S67 h l g k 5 0) (.exit 0) (S67 h l g k 5 i)::MatchK [] [] [] {t:=[(2,.gp 100000 0),(3,.gp 100001 0),(5,.val (Value.int IntKind.i64 0))],h:=[(100000,gB (.agg [.val (Value.int IntKind.i64 h.kind),.val (Value.int IntKind.i64 h.int),.str h.3,sL 1 (List.map AV.str h.names),sL 5 (encVs l)])),(100001,gB (.agg [.val (Value.int IntKind.i64 g.kind),.val (Value.int IntKind.i64 g.int),.str g.3,sL 1 (List.map AV.str g.names),sL 5 (encVs k)]))]} (S67 h l g k 5 0)::((!decide ((↑(encVs l).length:Int)=(↑(encVs k).length:Int)))=false)::(d2 ((!decide ((↑(List.map AV.str h.names).length:Int)=(↑(List.map AV.str g.names).length:Int)))=false) (d6 ((!decide ((↑(List.map AV.str h.names).length:Int)=(↑(List.map AV.str g.names).length:Int)))=false) (d2 ((!decide (h.text=g.text))=false) (d6 ((!decide (h.text=g.text))=false) (d6 ((!decide (h.int=g.int))=false) (d6 ((!decide (h.kind=g.kind))=false) []))))))):=kr
theorem call67:callable Tryz.prog 42=true:=kr
section
variable (W:World) (h:JH) (l:List JV) (g:JH) (k:List JV)
theorem namesExit (hl:h.names.length<=2 ^ 50) (e:h.names=g.names):∀ i:Nat,i<=h.names.length->LoopC Tryz.prog W [] (nslots Tryz.prog 42) (loopOf Tryz.prog 42 0) (S67 h l g k 5 i) (.exit 0) (S67 h l g k 5 h.names.length):=by
 refine loopC_inv (fun i:Nat=>S67 h l g k 5 i) (fun i=>i<=h.names.length) (fun i=>h.names.length - i) (by simp) ?_
 intro i h1
 by_cases hi:i<h.names.length
 ·obtain ⟨x,hx⟩:=getOf hi
  have hy:g.names[i]?=some x:=by rw [<-e];exact hx
  left
  exact ⟨i+1,by omega,by omega,body_of_sbodyM mixedz (n67_1 W h l g k i x x) Fr3_z3 [] [] Fr3_z1⟩
 ·right
  have hil:i=h.names.length:=by omega
  subst hil
  exact body_of_sbodyM mixedz (n67_2 W h l g k h.names.length) Fr3_z4 [] [] Fr3_z1
theorem namesRet (hl:h.names.length<=2 ^ 50) (hs:h.names.length=g.names.length) (e:h.names ≠ g.names):∀ i:Nat,(i<=h.names.length/\∀ q,q<i->h.names[q]?=g.names[q]?)->LoopC Tryz.prog W [] (nslots Tryz.prog 42) (loopOf Tryz.prog 42 0) (S67 h l g k 5 i) .ret R67:=by
 refine loopC_inv (fun i:Nat=>S67 h l g k 5 i) (fun i=>i<=h.names.length/\∀ q,q<i->h.names[q]?=g.names[q]?) (fun i=>h.names.length - i) (by simp) ?_
 rintro i ⟨h1,h2⟩
 by_cases hi:i<h.names.length
 ·obtain ⟨x,hx⟩:=getOf hi
  obtain ⟨y,hy⟩:=getOf (l:=g.names) (i:=i) (by omega)
  by_cases hxy:x=y
  ·left
   exact ⟨i+1,⟨by omega,upto_succ h2 (by rw [hx,hy,hxy])⟩,by omega,body_of_sbodyM mixedz (n67_1 W h l g k i x y) Fr3_z3 [] [] Fr3_z1⟩
  ·right
   exact body_of_sbodyM mixedz (n67_0 W h l g k i x y) Fr3_z3 [] [] Fr3_z1
 ·exact absurd (eq_of_get hs fun q hq=>h2 q (by omega)) e
theorem itemsExit (hl:l.length<=2 ^ 50) (e:l=k) (ih:∀ (i:Nat) (x y:JV),l[i]?=some x->k[i]?=some y->Pure Tryz.prog W 42 [encV x,encV y] (bA (eqV x y))):∀ i:Nat,i<=l.length->LoopC Tryz.prog W [] (nslots Tryz.prog 42) (loopOf Tryz.prog 42 1) (S67 h l g k 6 i) (.exit 2) (S67 h l g k 6 l.length):=by
 refine loopC_inv (fun i:Nat=>S67 h l g k 6 i) (fun i=>i<=l.length) (fun i=>l.length - i) (by simp) ?_
 intro i h1
 by_cases hi:i<l.length
 ·obtain ⟨x,hx⟩:=getOf hi
  have hy:k[i]?=some x:=by rw [<-e];exact hx
  left
  have hih:=ih i x x hx hy
  rw [eqV_true] at hih
  cases x with
  | mk h1 l1=>exact ⟨i+1,by omega,by omega,body_of_sbodyM mixedz (i67_1 W h l g k i h1 l1 h1 l1 true) Fr3_z3 [] [] Fr3_z1⟩
 ·right
  have hil:i=l.length:=by omega
  subst hil
  exact body_of_sbodyM mixedz (i67_2 W h l g k l.length) Fr3_z4 [] [] Fr3_z1
theorem itemsRet (hl:l.length<=2 ^ 50) (hs:l.length=k.length) (e:l ≠ k) (ih:∀ (i:Nat) (x y:JV),l[i]?=some x->k[i]?=some y->Pure Tryz.prog W 42 [encV x,encV y] (bA (eqV x y))):∀ i:Nat,(i<=l.length/\∀ q,q<i->l[q]?=k[q]?)->LoopC Tryz.prog W [] (nslots Tryz.prog 42) (loopOf Tryz.prog 42 1) (S67 h l g k 6 i) .ret R67:=by
 refine loopC_inv (fun i:Nat=>S67 h l g k 6 i) (fun i=>i<=l.length/\∀ q,q<i->l[q]?=k[q]?) (fun i=>l.length - i) (by simp) ?_
 rintro i ⟨h1,h2⟩
 by_cases hi:i<l.length
 ·obtain ⟨x,hx⟩:=getOf hi
  obtain ⟨y,hy⟩:=getOf (l:=k) (i:=i) (by omega)
  have hih:=ih i x y hx hy
  by_cases hxy:x=y
  ·left
   rw [hxy,eqV_true] at hih
   refine ⟨i+1,⟨by omega,upto_succ h2 (by rw [hx,hy,hxy])⟩,by omega,?_⟩
   subst hxy
   cases x with
   | mk h1 l1=>exact body_of_sbodyM mixedz (i67_1 W h l g k i h1 l1 h1 l1 true) Fr3_z3 [] [] Fr3_z1
  ·right
   rw [eqV_false hxy] at hih
   cases x with
   | mk h1 l1=>cases y with
    | mk g1 k1=>exact body_of_sbodyM mixedz (i67_0 W h l g k i h1 l1 g1 k1 false) Fr3_z3 [] [] Fr3_z1
 ·exact absurd (eq_of_get hs fun q hq=>h2 q (by omega)) e
theorem equal67_step (ha:h.names.length<=2 ^ 50/\l.length<=2 ^ 50) (ih:∀ (i:Nat) (x y:JV),l[i]?=some x->k[i]?=some y->Pure Tryz.prog W 42 [encV x,encV y] (bA (eqV x y))) :
 Pure Tryz.prog W 42 [encV (.mk h l),encV (.mk g k)] (bA (eqV (.mk h l) (.mk g k))):=by
 have no:∀ {b:Bool},(JV.mk h l ≠ .mk g k)->b=false->bA b=bA (eqV (.mk h l) (.mk g k)):=fun h1 h2=>by rw [eqV_false h1,h2]
 by_cases e1:h.kind=g.kind
 case neg=>rw [eqV_false (fun e=>e1 (by injection e with e _;rw [e]))];exact pure_of_mut rfl (mut_of_sfun mixedz call67 rfl (q67_0 W h l g k) Fr3_z4)
 by_cases e2:h.int=g.int
 case neg=>rw [eqV_false (fun e=>e2 (by injection e with e _;rw [e]))];exact pure_of_mut rfl (mut_of_sfun mixedz call67 rfl (q67_1 W h l g k) Fr3_z4)
 by_cases e3:h.text=g.text
 case neg=>rw [eqV_false (fun e=>e3 (by injection e with e _;rw [e]))];exact pure_of_mut rfl (mut_of_sfun mixedz call67 rfl (q67_2 W h l g k) Fr3_z4)
 by_cases e4:h.names.length=g.names.length
 case neg=>rw [eqV_false (fun e=>e4 (by injection e with e _;rw [e]))];exact pure_of_mut rfl (mut_of_sfun mixedz call67 rfl (q67_3 W h l g k) Fr3_z4)
 by_cases e5:l.length=k.length
 case neg=>rw [eqV_false (fun e=>e5 (by injection e with _ e;rw [e]))];exact pure_of_mut rfl (mut_of_sfun mixedz call67 rfl (q67_4 W h l g k) Fr3_z4)
 by_cases e6:h.names=g.names
 case neg =>
  have hlp:=namesRet W h l g k ha.1 e4 e6 0 ⟨by omega,by intro q hq;omega⟩
  rw [eqV_false (fun e=>e6 (by injection e with e _;rw [e]))];exact pure_of_mut rfl (mut_of_sfun mixedz call67 rfl (r67_5 W h l g k) Fr3_z4)
 have hn:=namesExit W h l g k ha.1 e6 0 (by omega)
 by_cases e7:l=k
 case neg =>
  have hlp:=itemsRet W h l g k ha.2 e5 e7 ih 0 ⟨by omega,by intro q hq;omega⟩
  rw [eqV_false (fun e=>e7 (by injection e))];exact pure_of_mut rfl (mut_of_sfun mixedz call67 rfl (s67_5 W h l g k h.names.length) Fr3_z4)
 have hi:=itemsExit W h l g k ha.2 e7 ih 0 (by omega)
 have e:JV.mk h l=.mk g k:=by rw [e7];congr 1;cases h;cases g;simp only at e1 e2 e3 e6;subst e1 e2 e3 e6;rfl
 rw [show eqV (.mk h l) (.mk g k)=true by rw [e];exact eqV_true _]
 exact pure_of_mut rfl (mut_of_sfun mixedz call67 rfl (q67_5 W h l g k h.names.length l.length) Fr3_z4)
end
theorem equal67 (W:World):∀ (n:Nat) (a b:JV),sizeV a<n->okV a->Pure Tryz.prog W 42 [encV a,encV b] (bA (eqV a b))
 | 0,_,_,h,_=>by omega
 | n+1,.mk h l,.mk g k,hs,hv=>equal67_step W h l g k ⟨hv.1,hv.2.1⟩ fun i x y hx _=>equal67 W n x y (by have:=sizeV_item (v:=.mk h l) hx;omega) (okVs_get hv.2.2 hx)
end Go.Ac

