/- What is proved: contracts of functions of this translation, walked; their plain meaning. No condition beyond those that each theorem names. -/
import Derived.Test.YtohlmhkiejpkgaaGreatDoorFr1
set_option linter.all false
namespace Go.Ac
open Go Go.Proofs
set_option maxRecDepth 10000
set_option maxHeartbeats 1000000
theorem Fr2_z1 {kp f ph σ σ'} (h:MatchK kp f ph σ σ':=by exact ⟨by rfl,(by simp only [S18,tOK,List.map_cons,List.map_nil,and_true]<;>exact zt),(by simp only [S18,hOK,List.map_cons,List.map_nil,and_true]<;>exact zh),(by simp only [S18,liveT,List.map_cons,List.map_nil,and_true]<;>exact zv),(by simp only [S18,liveH,List.map_cons,List.map_nil,and_true]<;>exact zv)⟩):MatchK kp f ph σ σ':=h
theorem Fr2_z3 {cs} (h:Holds cs:=by simp only [Holds,and_true]<;>and_intros<;>first|exact zd|(rw [Int.toNat_natCast];exact encVs_get hx;done)|(exact mut_of_pure (by rfl) hih;done)|(simp only [encVs_len,List.length_take,true_or,true_and];omega;done)|(simp only [List.length_cons,List.length_nil];omega;done)|(simp only [decide_eq_true_eq,decide_eq_false_iff_not,Bool.not_eq_true',Bool.not_eq_false',encVs_len,List.length_map];omega)):Holds cs:=h
def B18 (h:JH) (i:Nat):AV:=.agg [.val (.int .i64 h.kind),.val (.int .i64 h.int),.str h.3,.gs 100003 0 (0+(List.map AV.str h.names).length),.gs 100005 0 i]
def S18 (h:JH) (l:List JV) (i:Nat):AS:=⟨[(1,.gp 100000 0),(2,.gp 100001 0),(3,.gp 100004 0),(4,iA i)],
 [(100000,.box (encV (.mk h l)) .own),(100001,.box (.agg [.val (.int .i64 0),.val (.int .i64 0),.str [],.val (.slice none 0 0),.val (.slice none 0 0)]) .own),(100003,.arr 9 1 (h.names.map AV.str) .own),(100004,.box (B18 h i) .own),(100005,.arr 25 5 (encVs (l.take i)) .own)]⟩
theorem b18_0 (W:World) (h:JH) (l:List JV) (i:Nat) (h1:JH) (l1:List JV):sQ W {tl:=[18],lp:=true,fin:=5} 18 0 [] [1,2,3,4] (S18 h l i) [bt,aE 1,oS (eV h1 l1),ee,cR (eV h1 l1) [],aE 1,.lg,.lg,ee]=.ok ((.normal,{t:=[(1,.gp 100000 0),(2,.gp 100001 0),(3,.gp 100004 0),(4,.val (Value.int IntKind.i64 (IntKind.i64.wrap ((i:Int)+1))))],h:=[(100000,gB (eV h l)),(100001,gB (.agg [.val (Value.int IntKind.i64 0),.val (Value.int IntKind.i64 0),.str [],.val (Value.slice none 0 0),.val (Value.slice none 0 0)])),(100003,.arr 9 1 (List.map AV.str h.names) .own),(100004,gB (.agg [.val (Value.int IntKind.i64 h.kind),.val (Value.int IntKind.i64 h.int),.str h.3,.gs 100003 0 (0+(List.map AV.str h.names).length),.gs 100007 0 (i+[AV.agg [.val (Value.int IntKind.i64 h1.kind),.val (Value.int IntKind.i64 h1.int),.str h1.3,sL 1 (List.map AV.str h1.names),sL 5 (encVs l1)]].length)])),(100005,.dead),(100006,.arr 25 5 [.agg [.val (Value.int IntKind.i64 h1.kind),.val (Value.int IntKind.i64 h1.int),.str h1.3,sL 1 (List.map AV.str h1.names),sL 5 (encVs l1)]] .own),(100007,.arr 25 5 (List.take i (encVs (List.take i l))++[AV.agg [.val (Value.int IntKind.i64 h1.kind),.val (Value.int IntKind.i64 h1.int),.str h1.3,sL 1 (List.map AV.str h1.names),sL 5 (encVs l1)]]) .own)]}),[ee],[(i+[AV.agg [.val (Value.int IntKind.i64 h1.kind),.val (Value.int IntKind.i64 h1.int),.str h1.3,sL 1 (List.map AV.str h1.names),sL 5 (encVs l1)]].length) * 80<=140737488355328,(St.own=St.own\/St.own=St.shr/\i=(encVs (List.take i l)).length)/\i<=(encVs (List.take i l)).length,MZ W 18 [.agg [.val (Value.int IntKind.i64 h1.kind),.val (Value.int IntKind.i64 h1.int),.str h1.3,sL 1 (List.map AV.str h1.names),sL 5 (encVs l1)]] [] (.ret (eV h1 l1) []),(encVs l)[(i:Int).toNat]?=some (eV h1 l1),decide ((i:Int)<(↑(encVs l).length:Int))=true]):=kr
theorem e18_1 (W:World) (h:JH) (l:List JV) (i:Nat):sbodyM Tryz.prog W {tl:=[18],lp:=true,fin:=5} 18 0 [] (S18 h l i) [bf,ee]=.ok ((.exit 0,{t:=[(1,.gp 100000 0),(2,.gp 100001 0),(3,.gp 100004 0),(4,iA (i:Int)),(16,.val (Value.int IntKind.i64 (i:Int))),(17,.gp 100000 4),(18,sL 5 (encVs l)),(19,.val (Value.int IntKind.i64 (↑(encVs l).length:Int))),(20,.val (Value.bool (decide ((i:Int)<(↑(encVs l).length:Int)))))],h:=[(100000,gB (eV h l)),(100001,gB (.agg [.val (Value.int IntKind.i64 0),.val (Value.int IntKind.i64 0),.str [],.val (Value.slice none 0 0),.val (Value.slice none 0 0)])),(100003,.arr 9 1 (List.map AV.str h.names) .own),(100004,gB (.agg [.val (Value.int IntKind.i64 h.kind),.val (Value.int IntKind.i64 h.int),.str h.3,.gs 100003 0 (0+(List.map AV.str h.names).length),.gs 100005 0 i])),(100005,.arr 25 5 (encVs (List.take i l)) .own)]}),[ee],[decide ((i:Int)<(↑(encVs l).length:Int))=false]):=kr
theorem p18_0 (W:World) (h:JH) (l:List JV) (i:Nat):sfun Tryz.prog W {tl:=[18],lp:=true,fin:=5} 1000 5 18 [eV h l] [] 100000 [aE 2,.lg,ee,.loopM [] [(100005,5)] (S18 h l 0) (.exit 0) (S18 h l i),ee,.fin [] [] (B18 h i) [(100003,.arr 9 1 (List.map AV.str h.names) .own),(100005,.arr 25 5 (encVs (List.take i l)) .own)],ee] []=.ok (.ret (.agg [.val (Value.int IntKind.i64 h.kind),.val (Value.int IntKind.i64 h.int),.str h.3,.gs 100003 0 (0+(List.map AV.str h.names).length),.gs 100005 0 i]) [(100003,.arr 9 1 (List.map AV.str h.names) .own),(100005,.arr 25 5 (encVs (List.take i l)) .own)],[ee],[MatchK [] [] [] {t:=[(0,.agg [.val (Value.int IntKind.i64 h.kind),.val (Value.int IntKind.i64 h.int),.str h.3,.gs 100003 0 (0+(List.map AV.str h.names).length),.gs 100005 0 i])],h:=[(100000,gB (eV h l)),(100001,gB (.agg [.val (Value.int IntKind.i64 h.kind),.val (Value.int IntKind.i64 h.int),.str h.3,.gs 100003 0 (0+(List.map AV.str h.names).length),.gs 100005 0 i])),(100003,.arr 9 1 (List.map AV.str h.names) .own),(100004,gB (.agg [.val (Value.int IntKind.i64 h.kind),.val (Value.int IntKind.i64 h.int),.str h.3,.gs 100003 0 (0+(List.map AV.str h.names).length),.gs 100005 0 i])),(100005,.arr 25 5 (encVs (List.take i l)) .own)]} {t:=[(0,.agg [.val (Value.int IntKind.i64 h.kind),.val (Value.int IntKind.i64 h.int),.str h.3,.gs 100003 0 (0+(List.map AV.str h.names).length),.gs 100005 0 i])],h:=[(100003,.arr 9 1 (List.map AV.str h.names) .own),(100005,.arr 25 5 (encVs (List.take i l)) .own)]},LZ W [] 18 0 (S18 h l 0) (.exit 0) (S18 h l i),MatchK [] [] [(100005,5)] {t:=[(1,.gp 100000 0),(2,.gp 100001 0),(3,.gp 100004 0),(4,.val (Value.int IntKind.i64 0))],h:=[(100000,gB (.agg [.val (Value.int IntKind.i64 h.kind),.val (Value.int IntKind.i64 h.int),.str h.3,sL 1 (List.map AV.str h.names),sL 5 (encVs l)])),(100001,gB (.agg [.val (Value.int IntKind.i64 0),.val (Value.int IntKind.i64 0),.str [],.val (Value.slice none 0 0),.val (Value.slice none 0 0)])),(100002,.dead),(100003,.arr 9 1 (List.map AV.str h.names) .own),(100004,gB (.agg [.val (Value.int IntKind.i64 h.kind),.val (Value.int IntKind.i64 h.int),.str h.3,.gs 100003 0 (0+(List.map AV.str h.names).length),.val (Value.slice none 0 0)]))]} (S18 h l 0),(0+(List.map AV.str h.names).length) * 16<=140737488355328]):=kr
theorem call18:callable Tryz.prog 18=true:=kr
theorem loop18 (W:World) (h:JH) (l:List JV) (hv:okVs l) (hl:l.length<=2 ^ 40)
 (ih:∀ (i:Nat) (x:JV),l[i]?=some x->Pure Tryz.prog W 18 [encV x] (encV x)) :
 ∀ i:Nat,i<=l.length->LoopC Tryz.prog W [] (nslots Tryz.prog 18) (loopOf Tryz.prog 18 0) (S18 h l i) (.exit 0) (S18 h l l.length):=by
 refine loopC_inv (fun i:Nat=>S18 h l i) (fun i=>i<=l.length) (fun i=>l.length - i) (by simp) ?_
 intro i h1
 by_cases hi:i<l.length
 ·obtain ⟨x,hx⟩:=getOf hi
  left
  have hih:=ih i x hx
  refine ⟨i+1,by omega,by omega,?_⟩
  cases x with
  | mk h1 l1 =>
   refine body_of_sbodyK mixedz (b18_0 W h l i h1 l1) Fr2_z3 [(100005,100007)] [] Fr2_z1
 ·right
  have hil:i=l.length:=by omega
  subst hil
  exact body_of_sbodyM mixedz (e18_1 W h l l.length) (by simp only [Holds,and_true];all_goals (and_intros<;>first|exact .inl trivial |exact trivial|assumption|(simp only [decide_eq_true_eq,decide_eq_false_iff_not,Bool.not_eq_true',Bool.not_eq_false',encVs_len,List.length_map];omega)|omega)) [] [] Fr2_z1
theorem copy18_step (W:World) (v:JV) (hv:okV v) (hc:cntV v<=2 ^ 30) (ih:∀ u,sizeV u<sizeV v->okV u->cntV u<=2 ^ 30->Pure Tryz.prog W 18 [encV u] (encV u)):Pure Tryz.prog W 18 [encV v] (encV v):=by
 cases v with
 | mk h l =>
  have hcl:=cntV_len (.mk h l)
  simp only [JV.names,JV.items,JV.hd] at hcl
  have hlp:=loop18 W h l hv.2.2 (by omega) (fun i x hx=>ih x (sizeV_item (v:=.mk h l) hx) (okVs_get hv.2.2 hx) (by have:=cntV_item (v:=.mk h l) hx;omega)) 0 (by omega)
  refine pure_frz [(100003,.arr 9 1 (h.names.map AV.str) .own),(100005,.arr 25 5 (encVs (l.take l.length)) .own)] (mut_of_sfun mixedz call18 rfl (p18_0 W h l l.length) ⟨Fr2_z1,hlp,Fr2_z1,(by simp only [Holds,and_true];all_goals (and_intros<;>first|exact .inl trivial|(simp only [List.length_map];omega;done) |exact trivial|assumption|(simp only [decide_eq_true_eq,decide_eq_false_iff_not,Bool.not_eq_true',Bool.not_eq_false',encVs_len,List.length_map];omega)|omega))⟩) ?_ ?_ (encV_clo _)
  ·intro p hp
   simp only [List.mem_cons,List.not_mem_nil,or_false] at hp
   rcases hp with rfl|rfl<;>exact ⟨by simp [hg],by simp only [Frzable];first|exact cloL_str _|exact encVs_clo _⟩
  ·have e1:=List.take_of_length_le (l:=h.names.map AV.str) (i:=h.names.length) (by simp)
   have e2:=List.take_of_length_le (l:=encVs l) (i:=l.length) (by simp [encVs_len])
   simp [B18,clA,clL,lk,List.take_length,encV,encVs_len,e1,e2]
theorem copy18 (W:World):∀ (n:Nat) (v:JV),sizeV v<n->okV v->cntV v<=2 ^ 30->Pure Tryz.prog W 18 [encV v] (encV v)
 | 0,_,h,_,_=>by omega
 | n+1,v,h,hv,hc=>copy18_step W v hv hc fun u hu ho hk=>copy18 W n u (by omega) ho hk
end Go.Ac

