/- What is proved: contracts of functions of this translation, walked; their plain meaning. No condition beyond those that each theorem names. -/
import Derived.Test.YtohlmhkiejpkgaaGreatDoorMa6
import Derived.Test.YtohlmhkiejpkgaaGreatDoorMb1
import Derived.Test.YtohlmhkiejpkgaaGreatDoorMa5
set_option linter.all false
namespace Go.Ac
open Go Go.Proofs
set_option maxRecDepth 10000
set_option maxHeartbeats 1000000
theorem Fb13_z1 {kp f ph σ σ'} (h:MatchK kp f ph σ σ':=by exact ⟨by rfl,(by simp only [S111,H111,E111,rdH,tOK,List.map_cons,List.map_nil,and_true]<;>exact zt),(by simp only [S111,H111,E111,rdH,hOK,List.map_cons,List.map_nil,and_true]<;>exact zh),(by simp only [S111,H111,E111,rdH,liveT,List.map_cons,List.map_nil,and_true]<;>exact zv),(by simp only [S111,H111,E111,rdH,liveH,List.map_cons,List.map_nil,and_true]<;>exact zv)⟩):MatchK kp f ph σ σ':=h
theorem Fb13_z2 {cs} (h:Holds cs:=by simp only [Holds,and_true]<;>and_intros<;>first|exact zd):Holds cs:=h
def H111 (h:JH) (l:List JV) (t:Int) (ts:List AV):List (Nat×GE):=[(100000,.box (iA t) .own),(100001,.box (encV (.mk h l)) .own),(100002,.map opsM .own),(100003,.arr 158 7 ts .own)]
def S111 (h:JH) (l:List JV) (d t:Int) (ts:List AV) (m:Int) (i:Nat):AS:=⟨[(0,.gp 100000 0),(2,iA d),(4,.gp 100001 0),(7,.gs 100003 0 ts.length),(8,.mp 100002),(38,iA m),(39,iA i)],H111 h l t ts⟩
def E111 (t:Int) (ts:List AV):AS:=⟨[(7,.gs 100003 0 ts.length)],[(100000,.box (iA t) .own),(100003,.arr 158 7 ts .own)]⟩
theorem b111_sEq_0 (W:World) (h:JH) (l:List JV) (d t t2 m:Int) (ts:List AV) (i:Nat) (h2:JH) (l2:List JV):sQ W {lp:=true,tl:=[169]} 111 0 [100000] [0,2,4,7,8,38,39] (S111 h l d t ts m i) [bt,aE 1,oS (.str [36,101,113]),bf,aE 2,oS (.str [36,101,113]),aE 1,oS (eV h2 l2),aE 1,oS (eV h2 l2),ee,cR (.fn (Fn.func 170) [] [(eV h2 l2).ip 0]) (rdH t2),aE 1,.lg,.lg,ee]=.ok ((.normal,{t:=[(0,.gp 100000 0),(2,iA d),(4,.gp 100001 0),(7,.gs 100006 0 (ts.length+[AV.agg [.str [36,101,113],iA h2.kind,iA h2.int,.str h2.3,sL 1 (List.map AV.str h2.names),sL 5 (encVs l2),.fn (Fn.func 170) [] [(eV h2 l2).ip 0]]].length)),(8,.mp 100002),(38,iA m),(39,iA (IntKind.i64.wrap ((i:Int)+1)))],h:=[(100000,gB (iA t2)),(100001,gB (eV h l)),(100002,GE.map opsM .own),(100003,.dead),(100004,gB (.agg [.val (Value.func (Fn.func 169) #[] #[])])),(100005,.arr 158 7 [.agg [.str [36,101,113],iA h2.kind,iA h2.int,.str h2.3,sL 1 (List.map AV.str h2.names),sL 5 (encVs l2),.fn (Fn.func 170) [] [(eV h2 l2).ip 0]]] .own),(100006,.arr 158 7 (List.take ts.length ts++[AV.agg [.str [36,101,113],iA h2.kind,iA h2.int,.str h2.3,sL 1 (List.map AV.str h2.names),sL 5 (encVs l2),.fn (Fn.func 170) [] [(eV h2 l2).ip 0]]]) .own)]}),[ee],((ts.length+[AV.agg [.str [36,101,113],iA h2.kind,iA h2.int,.str h2.3,sL 1 (List.map AV.str h2.names),sL 5 (encVs l2),.fn (Fn.func 170) [] [(eV h2 l2).ip 0]]].length) * 104<=140737488355328)::((St.own=St.own\/St.own=St.shr/\ts.length=ts.length)/\ts.length<=ts.length)::MZ W 169 [.gp 100000 0,eV h2 l2,iA d] [(100000,gB (iA (IntKind.i64.wrap (t+1))))] (.ret (.fn (Fn.func 170) [] [(eV h2 l2).ip 0]) [(100000,gB (iA t2))])::(d2 ((encVs l)[(i:Int).toNat]?=some (eV h2 l2)) [(List.map AV.str h.names)[(i:Int).toNat]?=some (AV.str [36,101,113]),decide (t=64)=false,(List.map AV.str h.names)[(i:Int).toNat]?=some (AV.str [36,101,113]),decide ((i:Int)<m)=true])):=kr
theorem b111_sNe_0 (W:World) (h:JH) (l:List JV) (d t t2 m:Int) (ts:List AV) (i:Nat) (h2:JH) (l2:List JV):sQ W {lp:=true,tl:=[172]} 111 0 [100000] [0,2,4,7,8,38,39] (S111 h l d t ts m i) [bt,aE 1,oS (.str [36,110,101]),bf,aE 2,oS (.str [36,110,101]),aE 1,oS (eV h2 l2),aE 1,oS (eV h2 l2),ee,cR (.fn (Fn.func 173) [] [(eV h2 l2).ip 0]) (rdH t2),aE 1,.lg,.lg,ee]=.ok ((.normal,{t:=[(0,.gp 100000 0),(2,iA d),(4,.gp 100001 0),(7,.gs 100006 0 (ts.length+[AV.agg [.str [36,110,101],iA h2.kind,iA h2.int,.str h2.3,sL 1 (List.map AV.str h2.names),sL 5 (encVs l2),.fn (Fn.func 173) [] [(eV h2 l2).ip 0]]].length)),(8,.mp 100002),(38,iA m),(39,iA (IntKind.i64.wrap ((i:Int)+1)))],h:=[(100000,gB (iA t2)),(100001,gB (eV h l)),(100002,GE.map opsM .own),(100003,.dead),(100004,gB (.agg [.val (Value.func (Fn.func 172) #[] #[])])),(100005,.arr 158 7 [.agg [.str [36,110,101],iA h2.kind,iA h2.int,.str h2.3,sL 1 (List.map AV.str h2.names),sL 5 (encVs l2),.fn (Fn.func 173) [] [(eV h2 l2).ip 0]]] .own),(100006,.arr 158 7 (List.take ts.length ts++[AV.agg [.str [36,110,101],iA h2.kind,iA h2.int,.str h2.3,sL 1 (List.map AV.str h2.names),sL 5 (encVs l2),.fn (Fn.func 173) [] [(eV h2 l2).ip 0]]]) .own)]}),[ee],((ts.length+[AV.agg [.str [36,110,101],iA h2.kind,iA h2.int,.str h2.3,sL 1 (List.map AV.str h2.names),sL 5 (encVs l2),.fn (Fn.func 173) [] [(eV h2 l2).ip 0]]].length) * 104<=140737488355328)::((St.own=St.own\/St.own=St.shr/\ts.length=ts.length)/\ts.length<=ts.length)::MZ W 172 [.gp 100000 0,eV h2 l2,iA d] [(100000,gB (iA (IntKind.i64.wrap (t+1))))] (.ret (.fn (Fn.func 173) [] [(eV h2 l2).ip 0]) [(100000,gB (iA t2))])::(d2 ((encVs l)[(i:Int).toNat]?=some (eV h2 l2)) [(List.map AV.str h.names)[(i:Int).toNat]?=some (AV.str [36,110,101]),decide (t=64)=false,(List.map AV.str h.names)[(i:Int).toNat]?=some (AV.str [36,110,101]),decide ((i:Int)<m)=true])):=kr
theorem b111_sGt_0 (W:World) (h:JH) (l:List JV) (d t t2 m:Int) (ts:List AV) (i:Nat) (h2:JH) (l2:List JV):sQ W {lp:=true,tl:=[204]} 111 0 [100000] [0,2,4,7,8,38,39] (S111 h l d t ts m i) [bt,aE 1,oS (.str [36,103,116]),bf,aE 2,oS (.str [36,103,116]),aE 1,oS (eV h2 l2),aE 1,oS (eV h2 l2),ee,cR (.fn (Fn.func 205) [] [(eV h2 l2).ip 0,(AV.val (Value.func (Fn.func 175) #[] #[])).ip 0]) (rdH t2),aE 1,.lg,.lg,ee]=.ok ((.normal,{t:=[(0,.gp 100000 0),(2,iA d),(4,.gp 100001 0),(7,.gs 100006 0 (ts.length+[AV.agg [.str [36,103,116],iA h2.kind,iA h2.int,.str h2.3,sL 1 (List.map AV.str h2.names),sL 5 (encVs l2),.fn (Fn.func 205) [] [(eV h2 l2).ip 0,(AV.val (Value.func (Fn.func 175) #[] #[])).ip 0]]].length)),(8,.mp 100002),(38,iA m),(39,iA (IntKind.i64.wrap ((i:Int)+1)))],h:=[(100000,gB (iA t2)),(100001,gB (eV h l)),(100002,GE.map opsM .own),(100003,.dead),(100004,.box (.agg [.fn (Fn.func 204) [] [(AV.val (Value.func (Fn.func 175) #[] #[])).ip 0]]) .own),(100005,.arr 158 7 [.agg [.str [36,103,116],iA h2.kind,iA h2.int,.str h2.3,sL 1 (List.map AV.str h2.names),sL 5 (encVs l2),.fn (Fn.func 205) [] [(eV h2 l2).ip 0,(AV.val (Value.func (Fn.func 175) #[] #[])).ip 0]]] .own),(100006,.arr 158 7 (List.take ts.length ts++[AV.agg [.str [36,103,116],iA h2.kind,iA h2.int,.str h2.3,sL 1 (List.map AV.str h2.names),sL 5 (encVs l2),.fn (Fn.func 205) [] [(eV h2 l2).ip 0,(AV.val (Value.func (Fn.func 175) #[] #[])).ip 0]]]) .own)]}),[ee],((ts.length+[AV.agg [.str [36,103,116],iA h2.kind,iA h2.int,.str h2.3,sL 1 (List.map AV.str h2.names),sL 5 (encVs l2),.fn (Fn.func 205) [] [(eV h2 l2).ip 0,(AV.val (Value.func (Fn.func 175) #[] #[])).ip 0]]].length) * 104<=140737488355328)::((St.own=St.own\/St.own=St.shr/\ts.length=ts.length)/\ts.length<=ts.length)::MZ W 204 [.gp 100000 0,eV h2 l2,iA d,(AV.val (Value.func (Fn.func 175) #[] #[])).ip 0] [(100000,gB (iA (IntKind.i64.wrap (t+1))))] (.ret (.fn (Fn.func 205) [] [(eV h2 l2).ip 0,(AV.val (Value.func (Fn.func 175) #[] #[])).ip 0]) [(100000,gB (iA t2))])::(d2 ((encVs l)[(i:Int).toNat]?=some (eV h2 l2)) [(List.map AV.str h.names)[(i:Int).toNat]?=some (AV.str [36,103,116]),decide (t=64)=false,(List.map AV.str h.names)[(i:Int).toNat]?=some (AV.str [36,103,116]),decide ((i:Int)<m)=true])):=kr
theorem b111_sGte_0 (W:World) (h:JH) (l:List JV) (d t t2 m:Int) (ts:List AV) (i:Nat) (h2:JH) (l2:List JV):sQ W {lp:=true,tl:=[204]} 111 0 [100000] [0,2,4,7,8,38,39] (S111 h l d t ts m i) [bt,aE 1,oS (.str [36,103,116,101]),bf,aE 2,oS (.str [36,103,116,101]),aE 1,oS (eV h2 l2),aE 1,oS (eV h2 l2),ee,cR (.fn (Fn.func 205) [] [(eV h2 l2).ip 0,(AV.val (Value.func (Fn.func 176) #[] #[])).ip 0]) (rdH t2),aE 1,.lg,.lg,ee]=.ok ((.normal,{t:=[(0,.gp 100000 0),(2,iA d),(4,.gp 100001 0),(7,.gs 100006 0 (ts.length+[AV.agg [.str [36,103,116,101],iA h2.kind,iA h2.int,.str h2.3,sL 1 (List.map AV.str h2.names),sL 5 (encVs l2),.fn (Fn.func 205) [] [(eV h2 l2).ip 0,(AV.val (Value.func (Fn.func 176) #[] #[])).ip 0]]].length)),(8,.mp 100002),(38,iA m),(39,iA (IntKind.i64.wrap ((i:Int)+1)))],h:=[(100000,gB (iA t2)),(100001,gB (eV h l)),(100002,GE.map opsM .own),(100003,.dead),(100004,.box (.agg [.fn (Fn.func 204) [] [(AV.val (Value.func (Fn.func 176) #[] #[])).ip 0]]) .own),(100005,.arr 158 7 [.agg [.str [36,103,116,101],iA h2.kind,iA h2.int,.str h2.3,sL 1 (List.map AV.str h2.names),sL 5 (encVs l2),.fn (Fn.func 205) [] [(eV h2 l2).ip 0,(AV.val (Value.func (Fn.func 176) #[] #[])).ip 0]]] .own),(100006,.arr 158 7 (List.take ts.length ts++[AV.agg [.str [36,103,116,101],iA h2.kind,iA h2.int,.str h2.3,sL 1 (List.map AV.str h2.names),sL 5 (encVs l2),.fn (Fn.func 205) [] [(eV h2 l2).ip 0,(AV.val (Value.func (Fn.func 176) #[] #[])).ip 0]]]) .own)]}),[ee],((ts.length+[AV.agg [.str [36,103,116,101],iA h2.kind,iA h2.int,.str h2.3,sL 1 (List.map AV.str h2.names),sL 5 (encVs l2),.fn (Fn.func 205) [] [(eV h2 l2).ip 0,(AV.val (Value.func (Fn.func 176) #[] #[])).ip 0]]].length) * 104<=140737488355328)::((St.own=St.own\/St.own=St.shr/\ts.length=ts.length)/\ts.length<=ts.length)::MZ W 204 [.gp 100000 0,eV h2 l2,iA d,(AV.val (Value.func (Fn.func 176) #[] #[])).ip 0] [(100000,gB (iA (IntKind.i64.wrap (t+1))))] (.ret (.fn (Fn.func 205) [] [(eV h2 l2).ip 0,(AV.val (Value.func (Fn.func 176) #[] #[])).ip 0]) [(100000,gB (iA t2))])::(d2 ((encVs l)[(i:Int).toNat]?=some (eV h2 l2)) [(List.map AV.str h.names)[(i:Int).toNat]?=some (AV.str [36,103,116,101]),decide (t=64)=false,(List.map AV.str h.names)[(i:Int).toNat]?=some (AV.str [36,103,116,101]),decide ((i:Int)<m)=true])):=kr
theorem b111_sLt_0 (W:World) (h:JH) (l:List JV) (d t t2 m:Int) (ts:List AV) (i:Nat) (h2:JH) (l2:List JV):sQ W {lp:=true,tl:=[204]} 111 0 [100000] [0,2,4,7,8,38,39] (S111 h l d t ts m i) [bt,aE 1,oS (.str [36,108,116]),bf,aE 2,oS (.str [36,108,116]),aE 1,oS (eV h2 l2),aE 1,oS (eV h2 l2),ee,cR (.fn (Fn.func 205) [] [(eV h2 l2).ip 0,(AV.val (Value.func (Fn.func 177) #[] #[])).ip 0]) (rdH t2),aE 1,.lg,.lg,ee]=.ok ((.normal,{t:=[(0,.gp 100000 0),(2,iA d),(4,.gp 100001 0),(7,.gs 100006 0 (ts.length+[AV.agg [.str [36,108,116],iA h2.kind,iA h2.int,.str h2.3,sL 1 (List.map AV.str h2.names),sL 5 (encVs l2),.fn (Fn.func 205) [] [(eV h2 l2).ip 0,(AV.val (Value.func (Fn.func 177) #[] #[])).ip 0]]].length)),(8,.mp 100002),(38,iA m),(39,iA (IntKind.i64.wrap ((i:Int)+1)))],h:=[(100000,gB (iA t2)),(100001,gB (eV h l)),(100002,GE.map opsM .own),(100003,.dead),(100004,.box (.agg [.fn (Fn.func 204) [] [(AV.val (Value.func (Fn.func 177) #[] #[])).ip 0]]) .own),(100005,.arr 158 7 [.agg [.str [36,108,116],iA h2.kind,iA h2.int,.str h2.3,sL 1 (List.map AV.str h2.names),sL 5 (encVs l2),.fn (Fn.func 205) [] [(eV h2 l2).ip 0,(AV.val (Value.func (Fn.func 177) #[] #[])).ip 0]]] .own),(100006,.arr 158 7 (List.take ts.length ts++[AV.agg [.str [36,108,116],iA h2.kind,iA h2.int,.str h2.3,sL 1 (List.map AV.str h2.names),sL 5 (encVs l2),.fn (Fn.func 205) [] [(eV h2 l2).ip 0,(AV.val (Value.func (Fn.func 177) #[] #[])).ip 0]]]) .own)]}),[ee],((ts.length+[AV.agg [.str [36,108,116],iA h2.kind,iA h2.int,.str h2.3,sL 1 (List.map AV.str h2.names),sL 5 (encVs l2),.fn (Fn.func 205) [] [(eV h2 l2).ip 0,(AV.val (Value.func (Fn.func 177) #[] #[])).ip 0]]].length) * 104<=140737488355328)::((St.own=St.own\/St.own=St.shr/\ts.length=ts.length)/\ts.length<=ts.length)::MZ W 204 [.gp 100000 0,eV h2 l2,iA d,(AV.val (Value.func (Fn.func 177) #[] #[])).ip 0] [(100000,gB (iA (IntKind.i64.wrap (t+1))))] (.ret (.fn (Fn.func 205) [] [(eV h2 l2).ip 0,(AV.val (Value.func (Fn.func 177) #[] #[])).ip 0]) [(100000,gB (iA t2))])::(d2 ((encVs l)[(i:Int).toNat]?=some (eV h2 l2)) [(List.map AV.str h.names)[(i:Int).toNat]?=some (AV.str [36,108,116]),decide (t=64)=false,(List.map AV.str h.names)[(i:Int).toNat]?=some (AV.str [36,108,116]),decide ((i:Int)<m)=true])):=kr
theorem b111_sLte_0 (W:World) (h:JH) (l:List JV) (d t t2 m:Int) (ts:List AV) (i:Nat) (h2:JH) (l2:List JV):sQ W {lp:=true,tl:=[204]} 111 0 [100000] [0,2,4,7,8,38,39] (S111 h l d t ts m i) [bt,aE 1,oS (.str [36,108,116,101]),bf,aE 2,oS (.str [36,108,116,101]),aE 1,oS (eV h2 l2),aE 1,oS (eV h2 l2),ee,cR (.fn (Fn.func 205) [] [(eV h2 l2).ip 0,(AV.val (Value.func (Fn.func 178) #[] #[])).ip 0]) (rdH t2),aE 1,.lg,.lg,ee]=.ok ((.normal,{t:=[(0,.gp 100000 0),(2,iA d),(4,.gp 100001 0),(7,.gs 100006 0 (ts.length+[AV.agg [.str [36,108,116,101],iA h2.kind,iA h2.int,.str h2.3,sL 1 (List.map AV.str h2.names),sL 5 (encVs l2),.fn (Fn.func 205) [] [(eV h2 l2).ip 0,(AV.val (Value.func (Fn.func 178) #[] #[])).ip 0]]].length)),(8,.mp 100002),(38,iA m),(39,iA (IntKind.i64.wrap ((i:Int)+1)))],h:=[(100000,gB (iA t2)),(100001,gB (eV h l)),(100002,GE.map opsM .own),(100003,.dead),(100004,.box (.agg [.fn (Fn.func 204) [] [(AV.val (Value.func (Fn.func 178) #[] #[])).ip 0]]) .own),(100005,.arr 158 7 [.agg [.str [36,108,116,101],iA h2.kind,iA h2.int,.str h2.3,sL 1 (List.map AV.str h2.names),sL 5 (encVs l2),.fn (Fn.func 205) [] [(eV h2 l2).ip 0,(AV.val (Value.func (Fn.func 178) #[] #[])).ip 0]]] .own),(100006,.arr 158 7 (List.take ts.length ts++[AV.agg [.str [36,108,116,101],iA h2.kind,iA h2.int,.str h2.3,sL 1 (List.map AV.str h2.names),sL 5 (encVs l2),.fn (Fn.func 205) [] [(eV h2 l2).ip 0,(AV.val (Value.func (Fn.func 178) #[] #[])).ip 0]]]) .own)]}),[ee],((ts.length+[AV.agg [.str [36,108,116,101],iA h2.kind,iA h2.int,.str h2.3,sL 1 (List.map AV.str h2.names),sL 5 (encVs l2),.fn (Fn.func 205) [] [(eV h2 l2).ip 0,(AV.val (Value.func (Fn.func 178) #[] #[])).ip 0]]].length) * 104<=140737488355328)::((St.own=St.own\/St.own=St.shr/\ts.length=ts.length)/\ts.length<=ts.length)::MZ W 204 [.gp 100000 0,eV h2 l2,iA d,(AV.val (Value.func (Fn.func 178) #[] #[])).ip 0] [(100000,gB (iA (IntKind.i64.wrap (t+1))))] (.ret (.fn (Fn.func 205) [] [(eV h2 l2).ip 0,(AV.val (Value.func (Fn.func 178) #[] #[])).ip 0]) [(100000,gB (iA t2))])::(d2 ((encVs l)[(i:Int).toNat]?=some (eV h2 l2)) [(List.map AV.str h.names)[(i:Int).toNat]?=some (AV.str [36,108,116,101]),decide (t=64)=false,(List.map AV.str h.names)[(i:Int).toNat]?=some (AV.str [36,108,116,101]),decide ((i:Int)<m)=true])):=kr
theorem b111_sIn_0 (W:World) (h:JH) (l:List JV) (d t t2 m:Int) (ts:List AV) (i:Nat) (h2:JH) (l2:List JV):sQ W {lp:=true,tl:=[208]} 111 0 [100000] [0,2,4,7,8,38,39] (S111 h l d t ts m i) [bt,aE 1,oS (.str [36,105,110]),bf,aE 2,oS (.str [36,105,110]),aE 1,oS (eV h2 l2),aE 1,oS (eV h2 l2),ee,cR (.fn (Fn.func 210) [] [(eV h2 l2).ip 0,(bA true).ip 0]) (rdH t2),aE 1,.lg,.lg,ee]=.ok ((.normal,{t:=[(0,.gp 100000 0),(2,iA d),(4,.gp 100001 0),(7,.gs 100006 0 (ts.length+[AV.agg [.str [36,105,110],iA h2.kind,iA h2.int,.str h2.3,sL 1 (List.map AV.str h2.names),sL 5 (encVs l2),.fn (Fn.func 210) [] [(eV h2 l2).ip 0,(bA true).ip 0]]].length)),(8,.mp 100002),(38,iA m),(39,iA (IntKind.i64.wrap ((i:Int)+1)))],h:=[(100000,gB (iA t2)),(100001,gB (eV h l)),(100002,GE.map opsM .own),(100003,.dead),(100004,gB (.agg [.fn (Fn.func 208) [] [(bA true).ip 0]])),(100005,.arr 158 7 [.agg [.str [36,105,110],iA h2.kind,iA h2.int,.str h2.3,sL 1 (List.map AV.str h2.names),sL 5 (encVs l2),.fn (Fn.func 210) [] [(eV h2 l2).ip 0,(bA true).ip 0]]] .own),(100006,.arr 158 7 (List.take ts.length ts++[AV.agg [.str [36,105,110],iA h2.kind,iA h2.int,.str h2.3,sL 1 (List.map AV.str h2.names),sL 5 (encVs l2),.fn (Fn.func 210) [] [(eV h2 l2).ip 0,(bA true).ip 0]]]) .own)]}),[ee],((ts.length+[AV.agg [.str [36,105,110],iA h2.kind,iA h2.int,.str h2.3,sL 1 (List.map AV.str h2.names),sL 5 (encVs l2),.fn (Fn.func 210) [] [(eV h2 l2).ip 0,(bA true).ip 0]]].length) * 104<=140737488355328)::((St.own=St.own\/St.own=St.shr/\ts.length=ts.length)/\ts.length<=ts.length)::MZ W 208 [.gp 100000 0,eV h2 l2,iA d,(bA true).ip 0] [(100000,gB (iA (IntKind.i64.wrap (t+1))))] (.ret (.fn (Fn.func 210) [] [(eV h2 l2).ip 0,(bA true).ip 0]) [(100000,gB (iA t2))])::(d2 ((encVs l)[(i:Int).toNat]?=some (eV h2 l2)) [(List.map AV.str h.names)[(i:Int).toNat]?=some (AV.str [36,105,110]),decide (t=64)=false,(List.map AV.str h.names)[(i:Int).toNat]?=some (AV.str [36,105,110]),decide ((i:Int)<m)=true])):=kr
theorem b111_sNin_0 (W:World) (h:JH) (l:List JV) (d t t2 m:Int) (ts:List AV) (i:Nat) (h2:JH) (l2:List JV):sQ W {lp:=true,tl:=[208]} 111 0 [100000] [0,2,4,7,8,38,39] (S111 h l d t ts m i) [bt,aE 1,oS (.str [36,110,105,110]),bf,aE 2,oS (.str [36,110,105,110]),aE 1,oS (eV h2 l2),aE 1,oS (eV h2 l2),ee,cR (.fn (Fn.func 210) [] [(eV h2 l2).ip 0,(bA false).ip 0]) (rdH t2),aE 1,.lg,.lg,ee]=.ok ((.normal,{t:=[(0,.gp 100000 0),(2,iA d),(4,.gp 100001 0),(7,.gs 100006 0 (ts.length+[AV.agg [.str [36,110,105,110],iA h2.kind,iA h2.int,.str h2.3,sL 1 (List.map AV.str h2.names),sL 5 (encVs l2),.fn (Fn.func 210) [] [(eV h2 l2).ip 0,(bA false).ip 0]]].length)),(8,.mp 100002),(38,iA m),(39,iA (IntKind.i64.wrap ((i:Int)+1)))],h:=[(100000,gB (iA t2)),(100001,gB (eV h l)),(100002,GE.map opsM .own),(100003,.dead),(100004,gB (.agg [.fn (Fn.func 208) [] [(bA false).ip 0]])),(100005,.arr 158 7 [.agg [.str [36,110,105,110],iA h2.kind,iA h2.int,.str h2.3,sL 1 (List.map AV.str h2.names),sL 5 (encVs l2),.fn (Fn.func 210) [] [(eV h2 l2).ip 0,(bA false).ip 0]]] .own),(100006,.arr 158 7 (List.take ts.length ts++[AV.agg [.str [36,110,105,110],iA h2.kind,iA h2.int,.str h2.3,sL 1 (List.map AV.str h2.names),sL 5 (encVs l2),.fn (Fn.func 210) [] [(eV h2 l2).ip 0,(bA false).ip 0]]]) .own)]}),[ee],((ts.length+[AV.agg [.str [36,110,105,110],iA h2.kind,iA h2.int,.str h2.3,sL 1 (List.map AV.str h2.names),sL 5 (encVs l2),.fn (Fn.func 210) [] [(eV h2 l2).ip 0,(bA false).ip 0]]].length) * 104<=140737488355328)::((St.own=St.own\/St.own=St.shr/\ts.length=ts.length)/\ts.length<=ts.length)::MZ W 208 [.gp 100000 0,eV h2 l2,iA d,(bA false).ip 0] [(100000,gB (iA (IntKind.i64.wrap (t+1))))] (.ret (.fn (Fn.func 210) [] [(eV h2 l2).ip 0,(bA false).ip 0]) [(100000,gB (iA t2))])::(d2 ((encVs l)[(i:Int).toNat]?=some (eV h2 l2)) [(List.map AV.str h.names)[(i:Int).toNat]?=some (AV.str [36,110,105,110]),decide (t=64)=false,(List.map AV.str h.names)[(i:Int).toNat]?=some (AV.str [36,110,105,110]),decide ((i:Int)<m)=true])):=kr
theorem b111_sAll_0 (W:World) (h:JH) (l:List JV) (d t t2 m:Int) (ts:List AV) (i:Nat) (h2:JH) (l2:List JV):sQ W {lp:=true,tl:=[180]} 111 0 [100000] [0,2,4,7,8,38,39] (S111 h l d t ts m i) [bt,aE 1,oS (.str [36,97,108,108]),bf,aE 2,oS (.str [36,97,108,108]),aE 1,oS (eV h2 l2),aE 1,oS (eV h2 l2),ee,cR (.fn (Fn.func 212) [] [(eV h2 l2).ip 0]) (rdH t2),aE 1,.lg,.lg,ee]=.ok ((.normal,{t:=[(0,.gp 100000 0),(2,iA d),(4,.gp 100001 0),(7,.gs 100006 0 (ts.length+[AV.agg [.str [36,97,108,108],iA h2.kind,iA h2.int,.str h2.3,sL 1 (List.map AV.str h2.names),sL 5 (encVs l2),.fn (Fn.func 212) [] [(eV h2 l2).ip 0]]].length)),(8,.mp 100002),(38,iA m),(39,iA (IntKind.i64.wrap ((i:Int)+1)))],h:=[(100000,gB (iA t2)),(100001,gB (eV h l)),(100002,GE.map opsM .own),(100003,.dead),(100004,gB (.agg [.val (Value.func (Fn.func 180) #[] #[])])),(100005,.arr 158 7 [.agg [.str [36,97,108,108],iA h2.kind,iA h2.int,.str h2.3,sL 1 (List.map AV.str h2.names),sL 5 (encVs l2),.fn (Fn.func 212) [] [(eV h2 l2).ip 0]]] .own),(100006,.arr 158 7 (List.take ts.length ts++[AV.agg [.str [36,97,108,108],iA h2.kind,iA h2.int,.str h2.3,sL 1 (List.map AV.str h2.names),sL 5 (encVs l2),.fn (Fn.func 212) [] [(eV h2 l2).ip 0]]]) .own)]}),[ee],((ts.length+[AV.agg [.str [36,97,108,108],iA h2.kind,iA h2.int,.str h2.3,sL 1 (List.map AV.str h2.names),sL 5 (encVs l2),.fn (Fn.func 212) [] [(eV h2 l2).ip 0]]].length) * 104<=140737488355328)::((St.own=St.own\/St.own=St.shr/\ts.length=ts.length)/\ts.length<=ts.length)::MZ W 180 [.gp 100000 0,eV h2 l2,iA d] [(100000,gB (iA (IntKind.i64.wrap (t+1))))] (.ret (.fn (Fn.func 212) [] [(eV h2 l2).ip 0]) [(100000,gB (iA t2))])::(d2 ((encVs l)[(i:Int).toNat]?=some (eV h2 l2)) [(List.map AV.str h.names)[(i:Int).toNat]?=some (AV.str [36,97,108,108]),decide (t=64)=false,(List.map AV.str h.names)[(i:Int).toNat]?=some (AV.str [36,97,108,108]),decide ((i:Int)<m)=true])):=kr
theorem b111_sExists_0 (W:World) (h:JH) (l:List JV) (d t t2 m:Int) (ts:List AV) (i:Nat) (h2:JH) (l2:List JV):sQ W {lp:=true,tl:=[181]} 111 0 [100000] [0,2,4,7,8,38,39] (S111 h l d t ts m i) [bt,aE 1,oS (.str [36,101,120,105,115,116,115]),bf,aE 2,oS (.str [36,101,120,105,115,116,115]),aE 1,oS (eV h2 l2),aE 1,oS (eV h2 l2),ee,cR (.fn (Fn.func 214) [] [(eV h2 l2).ip 0]) (rdH t2),aE 1,.lg,.lg,ee]=.ok ((.normal,{t:=[(0,.gp 100000 0),(2,iA d),(4,.gp 100001 0),(7,.gs 100006 0 (ts.length+[AV.agg [.str [36,101,120,105,115,116,115],iA h2.kind,iA h2.int,.str h2.3,sL 1 (List.map AV.str h2.names),sL 5 (encVs l2),.fn (Fn.func 214) [] [(eV h2 l2).ip 0]]].length)),(8,.mp 100002),(38,iA m),(39,iA (IntKind.i64.wrap ((i:Int)+1)))],h:=[(100000,gB (iA t2)),(100001,gB (eV h l)),(100002,GE.map opsM .own),(100003,.dead),(100004,gB (.agg [.val (Value.func (Fn.func 181) #[] #[])])),(100005,.arr 158 7 [.agg [.str [36,101,120,105,115,116,115],iA h2.kind,iA h2.int,.str h2.3,sL 1 (List.map AV.str h2.names),sL 5 (encVs l2),.fn (Fn.func 214) [] [(eV h2 l2).ip 0]]] .own),(100006,.arr 158 7 (List.take ts.length ts++[AV.agg [.str [36,101,120,105,115,116,115],iA h2.kind,iA h2.int,.str h2.3,sL 1 (List.map AV.str h2.names),sL 5 (encVs l2),.fn (Fn.func 214) [] [(eV h2 l2).ip 0]]]) .own)]}),[ee],((ts.length+[AV.agg [.str [36,101,120,105,115,116,115],iA h2.kind,iA h2.int,.str h2.3,sL 1 (List.map AV.str h2.names),sL 5 (encVs l2),.fn (Fn.func 214) [] [(eV h2 l2).ip 0]]].length) * 104<=140737488355328)::((St.own=St.own\/St.own=St.shr/\ts.length=ts.length)/\ts.length<=ts.length)::MZ W 181 [.gp 100000 0,eV h2 l2,iA d] [(100000,gB (iA (IntKind.i64.wrap (t+1))))] (.ret (.fn (Fn.func 214) [] [(eV h2 l2).ip 0]) [(100000,gB (iA t2))])::(d2 ((encVs l)[(i:Int).toNat]?=some (eV h2 l2)) [(List.map AV.str h.names)[(i:Int).toNat]?=some (AV.str [36,101,120,105,115,116,115]),decide (t=64)=false,(List.map AV.str h.names)[(i:Int).toNat]?=some (AV.str [36,101,120,105,115,116,115]),decide ((i:Int)<m)=true])):=kr
theorem b111_sType_0 (W:World) (h:JH) (l:List JV) (d t t2 m:Int) (ts:List AV) (i:Nat) (h2:JH) (l2:List JV) (T:List AV):sQ W {lp:=true,tl:=[182]} 111 0 [100000] [0,2,4,7,8,38,39] (S111 h l d t ts m i) [bt,aE 1,oS (.str [36,116,121,112,101]),bf,aE 2,oS (.str [36,116,121,112,101]),aE 1,oS (eV h2 l2),aE 1,oS (eV h2 l2),ee,cR (.fn (Fn.func 216) [] [(sL 1 T).ip 0]) (rdH t2),aE 1,.lg,.lg,ee]=.ok ((.normal,{t:=[(0,.gp 100000 0),(2,iA d),(4,.gp 100001 0),(7,.gs 100006 0 (ts.length+[AV.agg [.str [36,116,121,112,101],iA h2.kind,iA h2.int,.str h2.3,sL 1 (List.map AV.str h2.names),sL 5 (encVs l2),.fn (Fn.func 216) [] [(sL 1 T).ip 0]]].length)),(8,.mp 100002),(38,iA m),(39,iA (IntKind.i64.wrap ((i:Int)+1)))],h:=[(100000,gB (iA t2)),(100001,gB (eV h l)),(100002,GE.map opsM .own),(100003,.dead),(100004,gB (.agg [.val (Value.func (Fn.func 182) #[] #[])])),(100005,.arr 158 7 [.agg [.str [36,116,121,112,101],iA h2.kind,iA h2.int,.str h2.3,sL 1 (List.map AV.str h2.names),sL 5 (encVs l2),.fn (Fn.func 216) [] [(sL 1 T).ip 0]]] .own),(100006,.arr 158 7 (List.take ts.length ts++[AV.agg [.str [36,116,121,112,101],iA h2.kind,iA h2.int,.str h2.3,sL 1 (List.map AV.str h2.names),sL 5 (encVs l2),.fn (Fn.func 216) [] [(sL 1 T).ip 0]]]) .own)]}),[ee],((ts.length+[AV.agg [.str [36,116,121,112,101],iA h2.kind,iA h2.int,.str h2.3,sL 1 (List.map AV.str h2.names),sL 5 (encVs l2),.fn (Fn.func 216) [] [(sL 1 T).ip 0]]].length) * 104<=140737488355328)::((St.own=St.own\/St.own=St.shr/\ts.length=ts.length)/\ts.length<=ts.length)::MZ W 182 [.gp 100000 0,eV h2 l2,iA d] [(100000,gB (iA (IntKind.i64.wrap (t+1))))] (.ret (.fn (Fn.func 216) [] [(sL 1 T).ip 0]) [(100000,gB (iA t2))])::(d2 ((encVs l)[(i:Int).toNat]?=some (eV h2 l2)) [(List.map AV.str h.names)[(i:Int).toNat]?=some (AV.str [36,116,121,112,101]),decide (t=64)=false,(List.map AV.str h.names)[(i:Int).toNat]?=some (AV.str [36,116,121,112,101]),decide ((i:Int)<m)=true])):=kr
theorem b111_sSize_0 (W:World) (h:JH) (l:List JV) (d t t2 m:Int) (ts:List AV) (i:Nat) (h2:JH) (l2:List JV):sQ W {lp:=true,tl:=[183]} 111 0 [100000] [0,2,4,7,8,38,39] (S111 h l d t ts m i) [bt,aE 1,oS (.str [36,115,105,122,101]),bf,aE 2,oS (.str [36,115,105,122,101]),aE 1,oS (eV h2 l2),aE 1,oS (eV h2 l2),ee,cR (.fn (Fn.func 218) [] [(eV h2 l2).ip 0]) (rdH t2),aE 1,.lg,.lg,ee]=.ok ((.normal,{t:=[(0,.gp 100000 0),(2,iA d),(4,.gp 100001 0),(7,.gs 100006 0 (ts.length+[AV.agg [.str [36,115,105,122,101],iA h2.kind,iA h2.int,.str h2.3,sL 1 (List.map AV.str h2.names),sL 5 (encVs l2),.fn (Fn.func 218) [] [(eV h2 l2).ip 0]]].length)),(8,.mp 100002),(38,iA m),(39,iA (IntKind.i64.wrap ((i:Int)+1)))],h:=[(100000,gB (iA t2)),(100001,gB (eV h l)),(100002,GE.map opsM .own),(100003,.dead),(100004,gB (.agg [.val (Value.func (Fn.func 183) #[] #[])])),(100005,.arr 158 7 [.agg [.str [36,115,105,122,101],iA h2.kind,iA h2.int,.str h2.3,sL 1 (List.map AV.str h2.names),sL 5 (encVs l2),.fn (Fn.func 218) [] [(eV h2 l2).ip 0]]] .own),(100006,.arr 158 7 (List.take ts.length ts++[AV.agg [.str [36,115,105,122,101],iA h2.kind,iA h2.int,.str h2.3,sL 1 (List.map AV.str h2.names),sL 5 (encVs l2),.fn (Fn.func 218) [] [(eV h2 l2).ip 0]]]) .own)]}),[ee],((ts.length+[AV.agg [.str [36,115,105,122,101],iA h2.kind,iA h2.int,.str h2.3,sL 1 (List.map AV.str h2.names),sL 5 (encVs l2),.fn (Fn.func 218) [] [(eV h2 l2).ip 0]]].length) * 104<=140737488355328)::((St.own=St.own\/St.own=St.shr/\ts.length=ts.length)/\ts.length<=ts.length)::MZ W 183 [.gp 100000 0,eV h2 l2,iA d] [(100000,gB (iA (IntKind.i64.wrap (t+1))))] (.ret (.fn (Fn.func 218) [] [(eV h2 l2).ip 0]) [(100000,gB (iA t2))])::(d2 ((encVs l)[(i:Int).toNat]?=some (eV h2 l2)) [(List.map AV.str h.names)[(i:Int).toNat]?=some (AV.str [36,115,105,122,101]),decide (t=64)=false,(List.map AV.str h.names)[(i:Int).toNat]?=some (AV.str [36,115,105,122,101]),decide ((i:Int)<m)=true])):=kr
theorem b111_sMod_0 (W:World) (h:JH) (l:List JV) (d t t2 m:Int) (ts:List AV) (i:Nat) (h2:JH) (l2:List JV):sQ W {lp:=true,tl:=[184]} 111 0 [100000] [0,2,4,7,8,38,39] (S111 h l d t ts m i) [bt,aE 1,oS (.str [36,109,111,100]),bf,aE 2,oS (.str [36,109,111,100]),aE 1,oS (eV h2 l2),aE 1,oS (eV h2 l2),ee,cR (.fn (Fn.func 220) [] [(eV h2 l2).ip 0]) (rdH t2),aE 1,.lg,.lg,ee]=.ok ((.normal,{t:=[(0,.gp 100000 0),(2,iA d),(4,.gp 100001 0),(7,.gs 100006 0 (ts.length+[AV.agg [.str [36,109,111,100],iA h2.kind,iA h2.int,.str h2.3,sL 1 (List.map AV.str h2.names),sL 5 (encVs l2),.fn (Fn.func 220) [] [(eV h2 l2).ip 0]]].length)),(8,.mp 100002),(38,iA m),(39,iA (IntKind.i64.wrap ((i:Int)+1)))],h:=[(100000,gB (iA t2)),(100001,gB (eV h l)),(100002,GE.map opsM .own),(100003,.dead),(100004,gB (.agg [.val (Value.func (Fn.func 184) #[] #[])])),(100005,.arr 158 7 [.agg [.str [36,109,111,100],iA h2.kind,iA h2.int,.str h2.3,sL 1 (List.map AV.str h2.names),sL 5 (encVs l2),.fn (Fn.func 220) [] [(eV h2 l2).ip 0]]] .own),(100006,.arr 158 7 (List.take ts.length ts++[AV.agg [.str [36,109,111,100],iA h2.kind,iA h2.int,.str h2.3,sL 1 (List.map AV.str h2.names),sL 5 (encVs l2),.fn (Fn.func 220) [] [(eV h2 l2).ip 0]]]) .own)]}),[ee],((ts.length+[AV.agg [.str [36,109,111,100],iA h2.kind,iA h2.int,.str h2.3,sL 1 (List.map AV.str h2.names),sL 5 (encVs l2),.fn (Fn.func 220) [] [(eV h2 l2).ip 0]]].length) * 104<=140737488355328)::((St.own=St.own\/St.own=St.shr/\ts.length=ts.length)/\ts.length<=ts.length)::MZ W 184 [.gp 100000 0,eV h2 l2,iA d] [(100000,gB (iA (IntKind.i64.wrap (t+1))))] (.ret (.fn (Fn.func 220) [] [(eV h2 l2).ip 0]) [(100000,gB (iA t2))])::(d2 ((encVs l)[(i:Int).toNat]?=some (eV h2 l2)) [(List.map AV.str h.names)[(i:Int).toNat]?=some (AV.str [36,109,111,100]),decide (t=64)=false,(List.map AV.str h.names)[(i:Int).toNat]?=some (AV.str [36,109,111,100]),decide ((i:Int)<m)=true])):=kr
theorem b111_sNot_0 (W:World) (h:JH) (l:List JV) (d t t2 m:Int) (ts:List AV) (i:Nat) (h2:JH) (l2:List JV) (T:List AV):sQ W {lp:=true,tl:=[185]} 111 0 [100000] [0,2,4,7,8,38,39] (S111 h l d t ts m i) [bt,aE 1,oS (.str [36,110,111,116]),bf,aE 2,oS (.str [36,110,111,116]),aE 1,oS (eV h2 l2),aE 1,oS (eV h2 l2),ee,cR (.fn (Fn.func 222) [] [(sL 7 T).ip 0]) (rdH t2),aE 1,.lg,.lg,ee]=.ok ((.normal,{t:=[(0,.gp 100000 0),(2,iA d),(4,.gp 100001 0),(7,.gs 100006 0 (ts.length+[AV.agg [.str [36,110,111,116],iA h2.kind,iA h2.int,.str h2.3,sL 1 (List.map AV.str h2.names),sL 5 (encVs l2),.fn (Fn.func 222) [] [(sL 7 T).ip 0]]].length)),(8,.mp 100002),(38,iA m),(39,iA (IntKind.i64.wrap ((i:Int)+1)))],h:=[(100000,gB (iA t2)),(100001,gB (eV h l)),(100002,GE.map opsM .own),(100003,.dead),(100004,gB (.agg [.val (Value.func (Fn.func 185) #[] #[])])),(100005,.arr 158 7 [.agg [.str [36,110,111,116],iA h2.kind,iA h2.int,.str h2.3,sL 1 (List.map AV.str h2.names),sL 5 (encVs l2),.fn (Fn.func 222) [] [(sL 7 T).ip 0]]] .own),(100006,.arr 158 7 (List.take ts.length ts++[AV.agg [.str [36,110,111,116],iA h2.kind,iA h2.int,.str h2.3,sL 1 (List.map AV.str h2.names),sL 5 (encVs l2),.fn (Fn.func 222) [] [(sL 7 T).ip 0]]]) .own)]}),[ee],((ts.length+[AV.agg [.str [36,110,111,116],iA h2.kind,iA h2.int,.str h2.3,sL 1 (List.map AV.str h2.names),sL 5 (encVs l2),.fn (Fn.func 222) [] [(sL 7 T).ip 0]]].length) * 104<=140737488355328)::((St.own=St.own\/St.own=St.shr/\ts.length=ts.length)/\ts.length<=ts.length)::MZ W 185 [.gp 100000 0,eV h2 l2,iA d] [(100000,gB (iA (IntKind.i64.wrap (t+1))))] (.ret (.fn (Fn.func 222) [] [(sL 7 T).ip 0]) [(100000,gB (iA t2))])::(d2 ((encVs l)[(i:Int).toNat]?=some (eV h2 l2)) [(List.map AV.str h.names)[(i:Int).toNat]?=some (AV.str [36,110,111,116]),decide (t=64)=false,(List.map AV.str h.names)[(i:Int).toNat]?=some (AV.str [36,110,111,116]),decide ((i:Int)<m)=true])):=kr
theorem b111_sElem_0 (W:World) (h:JH) (l:List JV) (d t t2 m:Int) (ts:List AV) (i:Nat) (h2:JH) (l2:List JV) (F:AV):sQ W {lp:=true,tl:=[186]} 111 0 [100000] [0,2,4,7,8,38,39] (S111 h l d t ts m i) [bt,aE 1,oS (.str [36,101,108,101,109,77,97,116,99,104]),bf,aE 2,oS (.str [36,101,108,101,109,77,97,116,99,104]),aE 1,oS (eV h2 l2),aE 1,oS (eV h2 l2),ee,cR (.fn (Fn.func 227) [] [F.ip 0]) (rdH t2),aE 1,.lg,.lg,ee]=.ok ((.normal,{t:=[(0,.gp 100000 0),(2,iA d),(4,.gp 100001 0),(7,.gs 100006 0 (ts.length+[AV.agg [.str [36,101,108,101,109,77,97,116,99,104],iA h2.kind,iA h2.int,.str h2.3,sL 1 (List.map AV.str h2.names),sL 5 (encVs l2),.fn (Fn.func 227) [] [F.ip 0]]].length)),(8,.mp 100002),(38,iA m),(39,iA (IntKind.i64.wrap ((i:Int)+1)))],h:=[(100000,gB (iA t2)),(100001,gB (eV h l)),(100002,GE.map opsM .own),(100003,.dead),(100004,gB (.agg [.val (Value.func (Fn.func 186) #[] #[])])),(100005,.arr 158 7 [.agg [.str [36,101,108,101,109,77,97,116,99,104],iA h2.kind,iA h2.int,.str h2.3,sL 1 (List.map AV.str h2.names),sL 5 (encVs l2),.fn (Fn.func 227) [] [F.ip 0]]] .own),(100006,.arr 158 7 (List.take ts.length ts++[AV.agg [.str [36,101,108,101,109,77,97,116,99,104],iA h2.kind,iA h2.int,.str h2.3,sL 1 (List.map AV.str h2.names),sL 5 (encVs l2),.fn (Fn.func 227) [] [F.ip 0]]]) .own)]}),[ee],((ts.length+[AV.agg [.str [36,101,108,101,109,77,97,116,99,104],iA h2.kind,iA h2.int,.str h2.3,sL 1 (List.map AV.str h2.names),sL 5 (encVs l2),.fn (Fn.func 227) [] [F.ip 0]]].length) * 104<=140737488355328)::((St.own=St.own\/St.own=St.shr/\ts.length=ts.length)/\ts.length<=ts.length)::MZ W 186 [.gp 100000 0,eV h2 l2,iA d] [(100000,gB (iA (IntKind.i64.wrap (t+1))))] (.ret (.fn (Fn.func 227) [] [F.ip 0]) [(100000,gB (iA t2))])::(d2 ((encVs l)[(i:Int).toNat]?=some (eV h2 l2)) [(List.map AV.str h.names)[(i:Int).toNat]?=some (AV.str [36,101,108,101,109,77,97,116,99,104]),decide (t=64)=false,(List.map AV.str h.names)[(i:Int).toNat]?=some (AV.str [36,101,108,101,109,77,97,116,99,104]),decide ((i:Int)<m)=true])):=kr
theorem x111_0 (W:World) (h:JH) (l:List JV) (d t m:Int) (ts:List AV) (i:Nat):sQ W {lp:=true} 111 0 [100000] [0,2,4,7,8,38,39] (S111 h l d t ts m i) [bf,ee]=.ok ((.exit 0,{t:=[(0,.gp 100000 0),(2,iA d),(4,.gp 100001 0),(7,.gs 100003 0 ts.length),(8,.mp 100002),(38,iA m),(39,iA (i:Int))],h:=[(100000,gB (iA t)),(100001,gB (eV h l)),(100002,GE.map opsM .own),(100003,.arr 158 7 ts .own)]}),[ee],[decide ((i:Int)<m)=false]):=kr
theorem p111_1 (W:World) (h:JH) (l:List JV) (d t t2 m:Int) (ts:List AV):sF W {lp:=true,fin:=9,tl:=[148]} 111 [.gp 100000 0,eV h l,iA d] (rdH t) 100001 [bf,bf,bf,bf,bf,bf,bf,bf,bf,bf,bf,bf,ee,cR (.mp 100002) [(100002,GE.map opsM .own)],ee,.loopM [] [(100003,7)] (S111 h l d t [] m 0) (.exit 0) (E111 t2 ts),ee,.fin [] [] (.gs 100003 0 ts.length) [(100000,gB (iA t2)),(100003,.arr 158 7 ts .own)],ee] []=.ok (.ret (.gs 100003 0 ts.length) [(100000,gB (iA t2)),(100003,.arr 158 7 ts .own)],[ee],MatchK [100000] [] [] {t:=[(0,.gs 100003 0 ts.length)],h:=[(100000,gB (iA t2)),(100003,.arr 158 7 ts .own)]} {t:=[(0,.gs 100003 0 ts.length)],h:=[(100000,gB (iA t2)),(100003,.arr 158 7 ts .own)]}::LZ W [100000] 111 0 (S111 h l d t [] m 0) (.exit 0) (E111 t2 ts)::MatchK [100000] [] [(100003,7)] {t:=[(0,.gp 100000 0),(2,iA d),(4,.gp 100001 0),(7,.val (Value.slice none 0 0)),(8,.mp 100002),(38,iA (if (↑(encVs l).length:Int)<(↑(List.map AV.str h.names).length:Int) then (↑(encVs l).length:Int) else (↑(List.map AV.str h.names).length:Int))),(39,iA 0)],h:=[(100000,gB (iA t)),(100001,gB (eV h l)),(100002,GE.map opsM .own)]} {t:=[(0,.gp 100000 0),(2,iA d),(4,.gp 100001 0),(7,.gs 100003 0 0),(8,.mp 100002),(38,iA m),(39,iA 0)],h:=[(100000,gB (iA t)),(100001,gB (eV h l)),(100002,GE.map opsM .own),(100003,.arr 158 7 [] .own)]}::MZ W 148 [] [] (.ret (.mp 100002) [(100002,GE.map opsM .own)])::(decide (16<d)=false)::(decide ((↑(encVs l).length:Int)=0)=false)::(decide ((↑(List.map AV.str h.names).length:Int)=0)=false)::(d4 (decide ((↑(List.map AV.str h.names).length:Int)=0)=false) (((!decide (h.kind=6))=false)::(d4 ((!decide (h.kind=6))=false) [])))):=kr
theorem call111:callable Tryz.prog 111=true:=kr
theorem takeAll (ts:List AV) (a:AV):List.take ts.length ts++[a]=ts++[a]:=by rw [List.take_length]
theorem clo_snoc {ts:List AV} {a:AV} (h:cloL ts=true) (ha:a.clo=true):cloL (ts++[a])=true:=by rw [clo_append,h];simp [cloL,ha]
theorem term_clo (nm:List UInt8) (x:JV) {f:AV} (hf:f.clo=true):(termA nm x f).clo=true:=by simp [termA,AV.clo,cloL,hf,iA]
section
variable (W:World) (h:JH) (l:List JV) (d t t2 m:Int) (ts:List AV) (i:Nat)
theorem st_sEq (T:List AV) (F:AV) (x:JV) (hi:(i:Int)<m) (hm:m<=2 ^ 40) (hn:ts.length<=2 ^ 30) (ht:0<=t/\t<64) (hts:cloL ts=true) (hx:h.names[i]?=some sEq) (hv:l[i]?=some x) (hM:MkC W x d (t+1) 169 [] (.fn (.func 170) [] [.ip (encV x) 0]) t2) :
 BodyC Tryz.prog W [100000] (nslots Tryz.prog 111) (loopOf Tryz.prog 111 0) (S111 h l d t ts m i) .normal (S111 h l d t2 (ts++[termA sEq x (.fn (.func 170) [] [.ip (encV x) 0])]) m (i+1:Nat)):=by
 have hws:IntKind.i64.wrap ((i:Int)+1)=((i+1:Nat):Int):=wrap_succ (by omega)
 have hwt:IntKind.i64.wrap (t+1)=t+1:=IntWalk.i64_in _ (by omega)
 have hc:=hM
 unfold MkC at hc
 rw [<-hwt] at hc
 obtain ⟨h2,l2⟩:=x
 have hget:(List.map AV.str h.names)[((i:Int)).toNat]?=some (AV.str [36,101,113]):=by rw [Int.toNat_natCast];exact strs_get hx
 have hget2:(encVs l)[((i:Int)).toNat]?=some (encV (.mk h2 l2)):=by rw [Int.toNat_natCast];exact encVs_get hv
 have hb1:decide (t=64)=false:=decide_eq_false (by omega)
 have hcl:=clo_snoc hts (term_clo sEq (.mk h2 l2) (f:=.fn (.func 170) [] [.ip (encV (.mk h2 l2)) 0]) rfl)
 exact body_of_sbodyK mixedz (b111_sEq_0 W h l d t t2 m ts i h2 l2) Fb13_z2 [(100003,100006)] [] Fb13_z1
theorem st_sNe (T:List AV) (F:AV) (x:JV) (hi:(i:Int)<m) (hm:m<=2 ^ 40) (hn:ts.length<=2 ^ 30) (ht:0<=t/\t<64) (hts:cloL ts=true) (hx:h.names[i]?=some sNe) (hv:l[i]?=some x) (hM:MkC W x d (t+1) 172 [] (.fn (.func 173) [] [.ip (encV x) 0]) t2) :
 BodyC Tryz.prog W [100000] (nslots Tryz.prog 111) (loopOf Tryz.prog 111 0) (S111 h l d t ts m i) .normal (S111 h l d t2 (ts++[termA sNe x (.fn (.func 173) [] [.ip (encV x) 0])]) m (i+1:Nat)):=by
 have hws:IntKind.i64.wrap ((i:Int)+1)=((i+1:Nat):Int):=wrap_succ (by omega)
 have hwt:IntKind.i64.wrap (t+1)=t+1:=IntWalk.i64_in _ (by omega)
 have hc:=hM
 unfold MkC at hc
 rw [<-hwt] at hc
 obtain ⟨h2,l2⟩:=x
 have hget:(List.map AV.str h.names)[((i:Int)).toNat]?=some (AV.str [36,110,101]):=by rw [Int.toNat_natCast];exact strs_get hx
 have hget2:(encVs l)[((i:Int)).toNat]?=some (encV (.mk h2 l2)):=by rw [Int.toNat_natCast];exact encVs_get hv
 have hb1:decide (t=64)=false:=decide_eq_false (by omega)
 have hcl:=clo_snoc hts (term_clo sNe (.mk h2 l2) (f:=.fn (.func 173) [] [.ip (encV (.mk h2 l2)) 0]) rfl)
 exact body_of_sbodyK mixedz (b111_sNe_0 W h l d t t2 m ts i h2 l2) Fb13_z2 [(100003,100006)] [] Fb13_z1
theorem st_sGt (T:List AV) (F:AV) (x:JV) (hi:(i:Int)<m) (hm:m<=2 ^ 40) (hn:ts.length<=2 ^ 30) (ht:0<=t/\t<64) (hts:cloL ts=true) (hx:h.names[i]?=some sGt) (hv:l[i]?=some x) (hM:MkC W x d (t+1) 204 [.ip (.val (.func (.func 175) #[] #[])) 0] (.fn (.func 205) [] [.ip (encV x) 0,.ip (.val (.func (.func 175) #[] #[])) 0]) t2) :
 BodyC Tryz.prog W [100000] (nslots Tryz.prog 111) (loopOf Tryz.prog 111 0) (S111 h l d t ts m i) .normal (S111 h l d t2 (ts++[termA sGt x (.fn (.func 205) [] [.ip (encV x) 0,.ip (.val (.func (.func 175) #[] #[])) 0])]) m (i+1:Nat)):=by
 have hws:IntKind.i64.wrap ((i:Int)+1)=((i+1:Nat):Int):=wrap_succ (by omega)
 have hwt:IntKind.i64.wrap (t+1)=t+1:=IntWalk.i64_in _ (by omega)
 have hc:=hM
 unfold MkC at hc
 rw [<-hwt] at hc
 obtain ⟨h2,l2⟩:=x
 have hget:(List.map AV.str h.names)[((i:Int)).toNat]?=some (AV.str [36,103,116]):=by rw [Int.toNat_natCast];exact strs_get hx
 have hget2:(encVs l)[((i:Int)).toNat]?=some (encV (.mk h2 l2)):=by rw [Int.toNat_natCast];exact encVs_get hv
 have hb1:decide (t=64)=false:=decide_eq_false (by omega)
 have hcl:=clo_snoc hts (term_clo sGt (.mk h2 l2) (f:=.fn (.func 205) [] [.ip (encV (.mk h2 l2)) 0,.ip (.val (.func (.func 175) #[] #[])) 0]) rfl)
 exact body_of_sbodyK mixedz (b111_sGt_0 W h l d t t2 m ts i h2 l2) Fb13_z2 [(100003,100006)] [] Fb13_z1
theorem st_sGte (T:List AV) (F:AV) (x:JV) (hi:(i:Int)<m) (hm:m<=2 ^ 40) (hn:ts.length<=2 ^ 30) (ht:0<=t/\t<64) (hts:cloL ts=true) (hx:h.names[i]?=some sGte) (hv:l[i]?=some x) (hM:MkC W x d (t+1) 204 [.ip (.val (.func (.func 176) #[] #[])) 0] (.fn (.func 205) [] [.ip (encV x) 0,.ip (.val (.func (.func 176) #[] #[])) 0]) t2) :
 BodyC Tryz.prog W [100000] (nslots Tryz.prog 111) (loopOf Tryz.prog 111 0) (S111 h l d t ts m i) .normal (S111 h l d t2 (ts++[termA sGte x (.fn (.func 205) [] [.ip (encV x) 0,.ip (.val (.func (.func 176) #[] #[])) 0])]) m (i+1:Nat)):=by
 have hws:IntKind.i64.wrap ((i:Int)+1)=((i+1:Nat):Int):=wrap_succ (by omega)
 have hwt:IntKind.i64.wrap (t+1)=t+1:=IntWalk.i64_in _ (by omega)
 have hc:=hM
 unfold MkC at hc
 rw [<-hwt] at hc
 obtain ⟨h2,l2⟩:=x
 have hget:(List.map AV.str h.names)[((i:Int)).toNat]?=some (AV.str [36,103,116,101]):=by rw [Int.toNat_natCast];exact strs_get hx
 have hget2:(encVs l)[((i:Int)).toNat]?=some (encV (.mk h2 l2)):=by rw [Int.toNat_natCast];exact encVs_get hv
 have hb1:decide (t=64)=false:=decide_eq_false (by omega)
 have hcl:=clo_snoc hts (term_clo sGte (.mk h2 l2) (f:=.fn (.func 205) [] [.ip (encV (.mk h2 l2)) 0,.ip (.val (.func (.func 176) #[] #[])) 0]) rfl)
 exact body_of_sbodyK mixedz (b111_sGte_0 W h l d t t2 m ts i h2 l2) Fb13_z2 [(100003,100006)] [] Fb13_z1
theorem st_sLt (T:List AV) (F:AV) (x:JV) (hi:(i:Int)<m) (hm:m<=2 ^ 40) (hn:ts.length<=2 ^ 30) (ht:0<=t/\t<64) (hts:cloL ts=true) (hx:h.names[i]?=some sLt) (hv:l[i]?=some x) (hM:MkC W x d (t+1) 204 [.ip (.val (.func (.func 177) #[] #[])) 0] (.fn (.func 205) [] [.ip (encV x) 0,.ip (.val (.func (.func 177) #[] #[])) 0]) t2) :
 BodyC Tryz.prog W [100000] (nslots Tryz.prog 111) (loopOf Tryz.prog 111 0) (S111 h l d t ts m i) .normal (S111 h l d t2 (ts++[termA sLt x (.fn (.func 205) [] [.ip (encV x) 0,.ip (.val (.func (.func 177) #[] #[])) 0])]) m (i+1:Nat)):=by
 have hws:IntKind.i64.wrap ((i:Int)+1)=((i+1:Nat):Int):=wrap_succ (by omega)
 have hwt:IntKind.i64.wrap (t+1)=t+1:=IntWalk.i64_in _ (by omega)
 have hc:=hM
 unfold MkC at hc
 rw [<-hwt] at hc
 obtain ⟨h2,l2⟩:=x
 have hget:(List.map AV.str h.names)[((i:Int)).toNat]?=some (AV.str [36,108,116]):=by rw [Int.toNat_natCast];exact strs_get hx
 have hget2:(encVs l)[((i:Int)).toNat]?=some (encV (.mk h2 l2)):=by rw [Int.toNat_natCast];exact encVs_get hv
 have hb1:decide (t=64)=false:=decide_eq_false (by omega)
 have hcl:=clo_snoc hts (term_clo sLt (.mk h2 l2) (f:=.fn (.func 205) [] [.ip (encV (.mk h2 l2)) 0,.ip (.val (.func (.func 177) #[] #[])) 0]) rfl)
 exact body_of_sbodyK mixedz (b111_sLt_0 W h l d t t2 m ts i h2 l2) Fb13_z2 [(100003,100006)] [] Fb13_z1
theorem st_sLte (T:List AV) (F:AV) (x:JV) (hi:(i:Int)<m) (hm:m<=2 ^ 40) (hn:ts.length<=2 ^ 30) (ht:0<=t/\t<64) (hts:cloL ts=true) (hx:h.names[i]?=some sLte) (hv:l[i]?=some x) (hM:MkC W x d (t+1) 204 [.ip (.val (.func (.func 178) #[] #[])) 0] (.fn (.func 205) [] [.ip (encV x) 0,.ip (.val (.func (.func 178) #[] #[])) 0]) t2) :
 BodyC Tryz.prog W [100000] (nslots Tryz.prog 111) (loopOf Tryz.prog 111 0) (S111 h l d t ts m i) .normal (S111 h l d t2 (ts++[termA sLte x (.fn (.func 205) [] [.ip (encV x) 0,.ip (.val (.func (.func 178) #[] #[])) 0])]) m (i+1:Nat)):=by
 have hws:IntKind.i64.wrap ((i:Int)+1)=((i+1:Nat):Int):=wrap_succ (by omega)
 have hwt:IntKind.i64.wrap (t+1)=t+1:=IntWalk.i64_in _ (by omega)
 have hc:=hM
 unfold MkC at hc
 rw [<-hwt] at hc
 obtain ⟨h2,l2⟩:=x
 have hget:(List.map AV.str h.names)[((i:Int)).toNat]?=some (AV.str [36,108,116,101]):=by rw [Int.toNat_natCast];exact strs_get hx
 have hget2:(encVs l)[((i:Int)).toNat]?=some (encV (.mk h2 l2)):=by rw [Int.toNat_natCast];exact encVs_get hv
 have hb1:decide (t=64)=false:=decide_eq_false (by omega)
 have hcl:=clo_snoc hts (term_clo sLte (.mk h2 l2) (f:=.fn (.func 205) [] [.ip (encV (.mk h2 l2)) 0,.ip (.val (.func (.func 178) #[] #[])) 0]) rfl)
 exact body_of_sbodyK mixedz (b111_sLte_0 W h l d t t2 m ts i h2 l2) Fb13_z2 [(100003,100006)] [] Fb13_z1
theorem st_sIn (T:List AV) (F:AV) (x:JV) (hi:(i:Int)<m) (hm:m<=2 ^ 40) (hn:ts.length<=2 ^ 30) (ht:0<=t/\t<64) (hts:cloL ts=true) (hx:h.names[i]?=some sIn) (hv:l[i]?=some x) (hM:MkC W x d (t+1) 208 [.ip (bA true) 0] (.fn (.func 210) [] [.ip (encV x) 0,.ip (bA true) 0]) t2) :
 BodyC Tryz.prog W [100000] (nslots Tryz.prog 111) (loopOf Tryz.prog 111 0) (S111 h l d t ts m i) .normal (S111 h l d t2 (ts++[termA sIn x (.fn (.func 210) [] [.ip (encV x) 0,.ip (bA true) 0])]) m (i+1:Nat)):=by
 have hws:IntKind.i64.wrap ((i:Int)+1)=((i+1:Nat):Int):=wrap_succ (by omega)
 have hwt:IntKind.i64.wrap (t+1)=t+1:=IntWalk.i64_in _ (by omega)
 have hc:=hM
 unfold MkC at hc
 rw [<-hwt] at hc
 obtain ⟨h2,l2⟩:=x
 have hget:(List.map AV.str h.names)[((i:Int)).toNat]?=some (AV.str [36,105,110]):=by rw [Int.toNat_natCast];exact strs_get hx
 have hget2:(encVs l)[((i:Int)).toNat]?=some (encV (.mk h2 l2)):=by rw [Int.toNat_natCast];exact encVs_get hv
 have hb1:decide (t=64)=false:=decide_eq_false (by omega)
 have hcl:=clo_snoc hts (term_clo sIn (.mk h2 l2) (f:=.fn (.func 210) [] [.ip (encV (.mk h2 l2)) 0,.ip (bA true) 0]) rfl)
 exact body_of_sbodyK mixedz (b111_sIn_0 W h l d t t2 m ts i h2 l2) Fb13_z2 [(100003,100006)] [] Fb13_z1
theorem st_sNin (T:List AV) (F:AV) (x:JV) (hi:(i:Int)<m) (hm:m<=2 ^ 40) (hn:ts.length<=2 ^ 30) (ht:0<=t/\t<64) (hts:cloL ts=true) (hx:h.names[i]?=some sNin) (hv:l[i]?=some x) (hM:MkC W x d (t+1) 208 [.ip (bA false) 0] (.fn (.func 210) [] [.ip (encV x) 0,.ip (bA false) 0]) t2) :
 BodyC Tryz.prog W [100000] (nslots Tryz.prog 111) (loopOf Tryz.prog 111 0) (S111 h l d t ts m i) .normal (S111 h l d t2 (ts++[termA sNin x (.fn (.func 210) [] [.ip (encV x) 0,.ip (bA false) 0])]) m (i+1:Nat)):=by
 have hws:IntKind.i64.wrap ((i:Int)+1)=((i+1:Nat):Int):=wrap_succ (by omega)
 have hwt:IntKind.i64.wrap (t+1)=t+1:=IntWalk.i64_in _ (by omega)
 have hc:=hM
 unfold MkC at hc
 rw [<-hwt] at hc
 obtain ⟨h2,l2⟩:=x
 have hget:(List.map AV.str h.names)[((i:Int)).toNat]?=some (AV.str [36,110,105,110]):=by rw [Int.toNat_natCast];exact strs_get hx
 have hget2:(encVs l)[((i:Int)).toNat]?=some (encV (.mk h2 l2)):=by rw [Int.toNat_natCast];exact encVs_get hv
 have hb1:decide (t=64)=false:=decide_eq_false (by omega)
 have hcl:=clo_snoc hts (term_clo sNin (.mk h2 l2) (f:=.fn (.func 210) [] [.ip (encV (.mk h2 l2)) 0,.ip (bA false) 0]) rfl)
 exact body_of_sbodyK mixedz (b111_sNin_0 W h l d t t2 m ts i h2 l2) Fb13_z2 [(100003,100006)] [] Fb13_z1
theorem st_sAll (T:List AV) (F:AV) (x:JV) (hi:(i:Int)<m) (hm:m<=2 ^ 40) (hn:ts.length<=2 ^ 30) (ht:0<=t/\t<64) (hts:cloL ts=true) (hx:h.names[i]?=some sAll) (hv:l[i]?=some x) (hM:MkC W x d (t+1) 180 [] (.fn (.func 212) [] [.ip (encV x) 0]) t2) :
 BodyC Tryz.prog W [100000] (nslots Tryz.prog 111) (loopOf Tryz.prog 111 0) (S111 h l d t ts m i) .normal (S111 h l d t2 (ts++[termA sAll x (.fn (.func 212) [] [.ip (encV x) 0])]) m (i+1:Nat)):=by
 have hws:IntKind.i64.wrap ((i:Int)+1)=((i+1:Nat):Int):=wrap_succ (by omega)
 have hwt:IntKind.i64.wrap (t+1)=t+1:=IntWalk.i64_in _ (by omega)
 have hc:=hM
 unfold MkC at hc
 rw [<-hwt] at hc
 obtain ⟨h2,l2⟩:=x
 have hget:(List.map AV.str h.names)[((i:Int)).toNat]?=some (AV.str [36,97,108,108]):=by rw [Int.toNat_natCast];exact strs_get hx
 have hget2:(encVs l)[((i:Int)).toNat]?=some (encV (.mk h2 l2)):=by rw [Int.toNat_natCast];exact encVs_get hv
 have hb1:decide (t=64)=false:=decide_eq_false (by omega)
 have hcl:=clo_snoc hts (term_clo sAll (.mk h2 l2) (f:=.fn (.func 212) [] [.ip (encV (.mk h2 l2)) 0]) rfl)
 exact body_of_sbodyK mixedz (b111_sAll_0 W h l d t t2 m ts i h2 l2) Fb13_z2 [(100003,100006)] [] Fb13_z1
theorem st_sExists (T:List AV) (F:AV) (x:JV) (hi:(i:Int)<m) (hm:m<=2 ^ 40) (hn:ts.length<=2 ^ 30) (ht:0<=t/\t<64) (hts:cloL ts=true) (hx:h.names[i]?=some sExists) (hv:l[i]?=some x) (hM:MkC W x d (t+1) 181 [] (.fn (.func 214) [] [.ip (encV x) 0]) t2) :
 BodyC Tryz.prog W [100000] (nslots Tryz.prog 111) (loopOf Tryz.prog 111 0) (S111 h l d t ts m i) .normal (S111 h l d t2 (ts++[termA sExists x (.fn (.func 214) [] [.ip (encV x) 0])]) m (i+1:Nat)):=by
 have hws:IntKind.i64.wrap ((i:Int)+1)=((i+1:Nat):Int):=wrap_succ (by omega)
 have hwt:IntKind.i64.wrap (t+1)=t+1:=IntWalk.i64_in _ (by omega)
 have hc:=hM
 unfold MkC at hc
 rw [<-hwt] at hc
 obtain ⟨h2,l2⟩:=x
 have hget:(List.map AV.str h.names)[((i:Int)).toNat]?=some (AV.str [36,101,120,105,115,116,115]):=by rw [Int.toNat_natCast];exact strs_get hx
 have hget2:(encVs l)[((i:Int)).toNat]?=some (encV (.mk h2 l2)):=by rw [Int.toNat_natCast];exact encVs_get hv
 have hb1:decide (t=64)=false:=decide_eq_false (by omega)
 have hcl:=clo_snoc hts (term_clo sExists (.mk h2 l2) (f:=.fn (.func 214) [] [.ip (encV (.mk h2 l2)) 0]) rfl)
 exact body_of_sbodyK mixedz (b111_sExists_0 W h l d t t2 m ts i h2 l2) Fb13_z2 [(100003,100006)] [] Fb13_z1
theorem st_sType (T:List AV) (F:AV) (x:JV) (hi:(i:Int)<m) (hm:m<=2 ^ 40) (hn:ts.length<=2 ^ 30) (ht:0<=t/\t<64) (hts:cloL ts=true) (hx:h.names[i]?=some sType) (hv:l[i]?=some x) (hM:MkC W x d (t+1) 182 [] (.fn (.func 216) [] [.ip (.sl 1 T []) 0]) t2) :
 BodyC Tryz.prog W [100000] (nslots Tryz.prog 111) (loopOf Tryz.prog 111 0) (S111 h l d t ts m i) .normal (S111 h l d t2 (ts++[termA sType x (.fn (.func 216) [] [.ip (.sl 1 T []) 0])]) m (i+1:Nat)):=by
 have hws:IntKind.i64.wrap ((i:Int)+1)=((i+1:Nat):Int):=wrap_succ (by omega)
 have hwt:IntKind.i64.wrap (t+1)=t+1:=IntWalk.i64_in _ (by omega)
 have hc:=hM
 unfold MkC at hc
 rw [<-hwt] at hc
 obtain ⟨h2,l2⟩:=x
 have hget:(List.map AV.str h.names)[((i:Int)).toNat]?=some (AV.str [36,116,121,112,101]):=by rw [Int.toNat_natCast];exact strs_get hx
 have hget2:(encVs l)[((i:Int)).toNat]?=some (encV (.mk h2 l2)):=by rw [Int.toNat_natCast];exact encVs_get hv
 have hb1:decide (t=64)=false:=decide_eq_false (by omega)
 have hcl:=clo_snoc hts (term_clo sType (.mk h2 l2) (f:=.fn (.func 216) [] [.ip (.sl 1 T []) 0]) rfl)
 exact body_of_sbodyK mixedz (b111_sType_0 W h l d t t2 m ts i h2 l2 T) Fb13_z2 [(100003,100006)] [] Fb13_z1
theorem st_sSize (T:List AV) (F:AV) (x:JV) (hi:(i:Int)<m) (hm:m<=2 ^ 40) (hn:ts.length<=2 ^ 30) (ht:0<=t/\t<64) (hts:cloL ts=true) (hx:h.names[i]?=some sSize) (hv:l[i]?=some x) (hM:MkC W x d (t+1) 183 [] (.fn (.func 218) [] [.ip (encV x) 0]) t2) :
 BodyC Tryz.prog W [100000] (nslots Tryz.prog 111) (loopOf Tryz.prog 111 0) (S111 h l d t ts m i) .normal (S111 h l d t2 (ts++[termA sSize x (.fn (.func 218) [] [.ip (encV x) 0])]) m (i+1:Nat)):=by
 have hws:IntKind.i64.wrap ((i:Int)+1)=((i+1:Nat):Int):=wrap_succ (by omega)
 have hwt:IntKind.i64.wrap (t+1)=t+1:=IntWalk.i64_in _ (by omega)
 have hc:=hM
 unfold MkC at hc
 rw [<-hwt] at hc
 obtain ⟨h2,l2⟩:=x
 have hget:(List.map AV.str h.names)[((i:Int)).toNat]?=some (AV.str [36,115,105,122,101]):=by rw [Int.toNat_natCast];exact strs_get hx
 have hget2:(encVs l)[((i:Int)).toNat]?=some (encV (.mk h2 l2)):=by rw [Int.toNat_natCast];exact encVs_get hv
 have hb1:decide (t=64)=false:=decide_eq_false (by omega)
 have hcl:=clo_snoc hts (term_clo sSize (.mk h2 l2) (f:=.fn (.func 218) [] [.ip (encV (.mk h2 l2)) 0]) rfl)
 exact body_of_sbodyK mixedz (b111_sSize_0 W h l d t t2 m ts i h2 l2) Fb13_z2 [(100003,100006)] [] Fb13_z1
theorem st_sMod (T:List AV) (F:AV) (x:JV) (hi:(i:Int)<m) (hm:m<=2 ^ 40) (hn:ts.length<=2 ^ 30) (ht:0<=t/\t<64) (hts:cloL ts=true) (hx:h.names[i]?=some sMod) (hv:l[i]?=some x) (hM:MkC W x d (t+1) 184 [] (.fn (.func 220) [] [.ip (encV x) 0]) t2) :
 BodyC Tryz.prog W [100000] (nslots Tryz.prog 111) (loopOf Tryz.prog 111 0) (S111 h l d t ts m i) .normal (S111 h l d t2 (ts++[termA sMod x (.fn (.func 220) [] [.ip (encV x) 0])]) m (i+1:Nat)):=by
 have hws:IntKind.i64.wrap ((i:Int)+1)=((i+1:Nat):Int):=wrap_succ (by omega)
 have hwt:IntKind.i64.wrap (t+1)=t+1:=IntWalk.i64_in _ (by omega)
 have hc:=hM
 unfold MkC at hc
 rw [<-hwt] at hc
 obtain ⟨h2,l2⟩:=x
 have hget:(List.map AV.str h.names)[((i:Int)).toNat]?=some (AV.str [36,109,111,100]):=by rw [Int.toNat_natCast];exact strs_get hx
 have hget2:(encVs l)[((i:Int)).toNat]?=some (encV (.mk h2 l2)):=by rw [Int.toNat_natCast];exact encVs_get hv
 have hb1:decide (t=64)=false:=decide_eq_false (by omega)
 have hcl:=clo_snoc hts (term_clo sMod (.mk h2 l2) (f:=.fn (.func 220) [] [.ip (encV (.mk h2 l2)) 0]) rfl)
 exact body_of_sbodyK mixedz (b111_sMod_0 W h l d t t2 m ts i h2 l2) Fb13_z2 [(100003,100006)] [] Fb13_z1
theorem st_sNot (T:List AV) (F:AV) (x:JV) (hi:(i:Int)<m) (hm:m<=2 ^ 40) (hn:ts.length<=2 ^ 30) (ht:0<=t/\t<64) (hts:cloL ts=true) (hx:h.names[i]?=some sNot) (hv:l[i]?=some x) (hM:MkC W x d (t+1) 185 [] (.fn (.func 222) [] [.ip (.sl 7 T []) 0]) t2) :
 BodyC Tryz.prog W [100000] (nslots Tryz.prog 111) (loopOf Tryz.prog 111 0) (S111 h l d t ts m i) .normal (S111 h l d t2 (ts++[termA sNot x (.fn (.func 222) [] [.ip (.sl 7 T []) 0])]) m (i+1:Nat)):=by
 have hws:IntKind.i64.wrap ((i:Int)+1)=((i+1:Nat):Int):=wrap_succ (by omega)
 have hwt:IntKind.i64.wrap (t+1)=t+1:=IntWalk.i64_in _ (by omega)
 have hc:=hM
 unfold MkC at hc
 rw [<-hwt] at hc
 obtain ⟨h2,l2⟩:=x
 have hget:(List.map AV.str h.names)[((i:Int)).toNat]?=some (AV.str [36,110,111,116]):=by rw [Int.toNat_natCast];exact strs_get hx
 have hget2:(encVs l)[((i:Int)).toNat]?=some (encV (.mk h2 l2)):=by rw [Int.toNat_natCast];exact encVs_get hv
 have hb1:decide (t=64)=false:=decide_eq_false (by omega)
 have hcl:=clo_snoc hts (term_clo sNot (.mk h2 l2) (f:=.fn (.func 222) [] [.ip (.sl 7 T []) 0]) rfl)
 exact body_of_sbodyK mixedz (b111_sNot_0 W h l d t t2 m ts i h2 l2 T) Fb13_z2 [(100003,100006)] [] Fb13_z1
theorem st_sElem (T:List AV) (F:AV) (x:JV) (hi:(i:Int)<m) (hm:m<=2 ^ 40) (hn:ts.length<=2 ^ 30) (ht:0<=t/\t<64) (hts:cloL ts=true) (hx:h.names[i]?=some sElem) (hv:l[i]?=some x) (hM:MkC W x d (t+1) 186 [] (.fn (.func 227) [] [.ip F 0]) t2) :
 BodyC Tryz.prog W [100000] (nslots Tryz.prog 111) (loopOf Tryz.prog 111 0) (S111 h l d t ts m i) .normal (S111 h l d t2 (ts++[termA sElem x (.fn (.func 227) [] [.ip F 0])]) m (i+1:Nat)):=by
 have hws:IntKind.i64.wrap ((i:Int)+1)=((i+1:Nat):Int):=wrap_succ (by omega)
 have hwt:IntKind.i64.wrap (t+1)=t+1:=IntWalk.i64_in _ (by omega)
 have hc:=hM
 unfold MkC at hc
 rw [<-hwt] at hc
 obtain ⟨h2,l2⟩:=x
 have hget:(List.map AV.str h.names)[((i:Int)).toNat]?=some (AV.str [36,101,108,101,109,77,97,116,99,104]):=by rw [Int.toNat_natCast];exact strs_get hx
 have hget2:(encVs l)[((i:Int)).toNat]?=some (encV (.mk h2 l2)):=by rw [Int.toNat_natCast];exact encVs_get hv
 have hb1:decide (t=64)=false:=decide_eq_false (by omega)
 have hcl:=clo_snoc hts (term_clo sElem (.mk h2 l2) (f:=.fn (.func 227) [] [.ip F 0]) rfl)
 exact body_of_sbodyK mixedz (b111_sElem_0 W h l d t t2 m ts i h2 l2 F) Fb13_z2 [(100003,100006)] [] Fb13_z1
end
end Go.Ac

namespace Go.Ac
open Go Go.Proofs
set_option maxRecDepth 10000
set_option maxHeartbeats 1000000
theorem Fb14_z1 {kp f ph σ σ'} (h:MatchK kp f ph σ σ':=by exact ⟨by rfl,(by simp only [S111,H111,E111,S63,E63,S108,E108,rdH,tOK,List.map_cons,List.map_nil,and_true]<;>exact zt),(by simp only [S111,H111,E111,S63,E63,S108,E108,rdH,hOK,List.map_cons,List.map_nil,and_true]<;>exact zh),(by simp only [S111,H111,E111,S63,E63,S108,E108,rdH,liveT,List.map_cons,List.map_nil,and_true]<;>exact zv),(by simp only [S111,H111,E111,S63,E63,S108,E108,rdH,liveH,List.map_cons,List.map_nil,and_true]<;>exact zv)⟩):MatchK kp f ph σ σ':=h
theorem Fb14_z3 {cs} (h:Holds cs:=by simp only [Holds,and_true]<;>and_intros<;>first|exact zd):Holds cs:=h
theorem Fb14_z4 {cs} (h:Holds cs:=by simp only [Holds,and_true]<;>and_intros<;>first|exact zd|exact Fb14_z1):Holds cs:=h
def S63 (h:JH) (l:List JV) (d t:Int) (ns:List AV) (m:Int) (i:Nat):AS:=⟨[(0,.gp 100000 0),(2,iA d),(4,.gp 100001 0),(6,.gp 100002 0),(7,.gp 100003 0),(27,iA m),(28,iA i)],[(100000,.box (iA t) .own),(100001,.box (encV (.mk h l)) .own),(100002,.box (.agg [.val (.slice none 0 0)]) .own),(100003,.box (.agg [.gs 100004 0 ns.length]) .own),(100004,.arr 146 1 ns .own)]⟩
def E63 (t:Int) (ns:List AV):AS:=⟨[(6,.gp 100002 0),(7,.gp 100003 0)],[(100000,.box (iA t) .own),(100002,.box (.agg [.val (.slice none 0 0)]) .own),(100003,.box (.agg [.gs 100004 0 ns.length]) .own),(100004,.arr 146 1 ns .own)]⟩
def S108 (l:List JV) (d t:Int) (s:List UInt8) (ns:List AV) (i:Nat):AS:=⟨[(0,.gp 100000 0),(3,iA d),(9,.gp 100002 0),(25,.sl 5 (encVs l) []),(26,iA l.length),(27,iA i)],[(100000,.box (iA t) .own),(100002,.box (.agg [.str s,.gs 100003 0 ns.length]) .own),(100003,.arr 146 1 ns .own)]⟩
def E108 (t:Int) (s:List UInt8) (ns:List AV):AS:=⟨[(9,.gp 100002 0)],[(100000,.box (iA t) .own),(100002,.box (.agg [.str s,.gs 100003 0 ns.length]) .own),(100003,.arr 146 1 ns .own)]⟩
theorem g63_0 (W:World) (h:JH) (l:List JV) (d t t2 m:Int) (ns:List AV) (i:Nat) (s:List UInt8) (h2:JH) (l2:List JV) (Q:List AV):sQ W {lp:=true,tl:=[107,108]} 63 0 [100000] [0,2,4,6,7,27,28] (S63 h l d t ns m i) [bt,aE 1,oS (.str s),aE 1,oS (eV h2 l2),ee,cR (bA true) [],ee,cR (groupA s Q) (rdH t2),aE 1,.lg,.lg,ee]=.ok ((.normal,{t:=[(0,.gp 100000 0),(2,iA d),(4,.gp 100001 0),(6,.gp 100002 0),(7,.gp 100003 0),(27,iA m),(28,iA (IntKind.i64.wrap ((i:Int)+1)))],h:=[(100000,gB (iA t2)),(100001,gB (eV h l)),(100002,gB (.agg [.val (Value.slice none 0 0)])),(100003,gB (.gs 100007 0 (ns.length+[AV.ifc 155 (.agg [.str s,sL 1 Q])].length))),(100004,.dead),(100005,gB (eV h2 l2)),(100006,.arr 146 1 [.ifc 155 (.agg [.str s,sL 1 Q])] .own),(100007,.arr 146 1 (List.take ns.length ns++[AV.ifc 155 (.agg [.str s,sL 1 Q])]) .own)]}),[ee],[(ns.length+[AV.ifc 155 (.agg [.str s,sL 1 Q])].length) * 16<=140737488355328,(St.own=St.own\/St.own=St.shr/\ns.length=ns.length)/\ns.length<=ns.length,MZ W 108 [.gp 100000 0,.str s,eV h2 l2,iA d] [(100000,gB (iA t))] (.ret (.ifc 155 (.agg [.str s,sL 1 Q])) [(100000,gB (iA t2))]),MZ W 107 [.str s] [] (.ret (bA true) []),(encVs l)[(i:Int).toNat]?=some (eV h2 l2),(List.map AV.str h.names)[(i:Int).toNat]?=some (AV.str s),decide ((i:Int)<m)=true]):=kr
theorem t63_0 (W:World) (h:JH) (l:List JV) (d t t2 m a:Int) (ns:List AV) (i:Nat) (s:List UInt8) (h2:JH) (l2:List JV) (P T:List AV):sQ W {lp:=true,tl:=[107,109,76,110,111]} 63 0 [100000] [0,2,4,6,7,27,28] (S63 h l d t ns m i) [bt,aE 1,oS (.str s),aE 1,oS (eV h2 l2),ee,cR (bA false) [],ee,cR (bA false) [],ee,cR (.tup [sL 1 P,iA 0,iA a]) [],ee,cR (bA true) [],ee,cR (sL 7 T) (rdH t2),aE 1,.lg,.lg,ee]=.ok ((.normal,{t:=[(0,.gp 100000 0),(2,iA d),(4,.gp 100001 0),(6,.gp 100002 0),(7,.gp 100003 0),(27,iA m),(28,iA (IntKind.i64.wrap ((i:Int)+1)))],h:=[(100000,gB (iA t2)),(100001,gB (eV h l)),(100002,gB (.agg [.val (Value.slice none 0 0)])),(100003,gB (.gs 100007 0 (ns.length+[AV.ifc 152 (.agg [.str s,sL 1 P,sL 7 T])].length))),(100004,.dead),(100005,gB (eV h2 l2)),(100006,.arr 146 1 [.ifc 152 (.agg [.str s,sL 1 P,sL 7 T])] .own),(100007,.arr 146 1 (List.take ns.length ns++[AV.ifc 152 (.agg [.str s,sL 1 P,sL 7 T])]) .own)]}),[ee],[(ns.length+[AV.ifc 152 (.agg [.str s,sL 1 P,sL 7 T])].length) * 16<=140737488355328,(St.own=St.own\/St.own=St.shr/\ns.length=ns.length)/\ns.length<=ns.length,MZ W 111 [.gp 100000 0,eV h2 l2,iA d] [(100000,gB (iA t))] (.ret (sL 7 T) [(100000,gB (iA t2))]),MZ W 110 [eV h2 l2] [] (.ret (bA true) []),MZ W 76 [.str s] [] (.ret (.tup [sL 1 P,iA 0,iA a]) []),MZ W 109 [.str s] [] (.ret (bA false) []),MZ W 107 [.str s] [] (.ret (bA false) []),(encVs l)[(i:Int).toNat]?=some (eV h2 l2),(List.map AV.str h.names)[(i:Int).toNat]?=some (AV.str s),decide ((i:Int)<m)=true]):=kr
theorem n63_0 (W:World) (h:JH) (l:List JV) (d t t2 m a:Int) (ns:List AV) (i:Nat) (s:List UInt8) (h2:JH) (l2:List JV) (P T:List AV):sQ W {lp:=true,tl:=[107,109,76,110,111]} 63 0 [100000] [0,2,4,6,7,27,28] (S63 h l d t ns m i) [bt,aE 1,oS (.str s),aE 1,oS (eV h2 l2),ee,cR (bA false) [],ee,cR (bA false) [],ee,cR (.tup [sL 1 P,iA 0,iA a]) [],ee,cR (bA false) [],ee,cR (sL 7 T) [(100000,gB (iA t2)),(100006,.arr 9 1 [.str [36,101,113]] .own),(100007,.arr 25 5 [eV h2 l2] .own)],aE 1,.lg,.lg,ee]=.ok ((.normal,{t:=[(0,.gp 100000 0),(2,iA d),(4,.gp 100001 0),(6,.gp 100002 0),(7,.gp 100003 0),(27,iA m),(28,iA (IntKind.i64.wrap ((i:Int)+1)))],h:=[(100000,gB (iA t2)),(100001,gB (eV h l)),(100002,gB (.agg [.val (Value.slice none 0 0)])),(100003,gB (.gs 100009 0 (ns.length+[AV.ifc 152 (.agg [.str s,sL 1 P,sL 7 T])].length))),(100004,.dead),(100005,gB (.agg [iA 6,iA 0,.str [],.gs 100006 0 1,.gs 100007 0 1])),(100006,.arr 9 1 [.str [36,101,113]] .own),(100007,.arr 25 5 [eV h2 l2] .own),(100008,.arr 146 1 [.ifc 152 (.agg [.str s,sL 1 P,sL 7 T])] .own),(100009,.arr 146 1 (List.take ns.length ns++[AV.ifc 152 (.agg [.str s,sL 1 P,sL 7 T])]) .own)]}),[ee],[(ns.length+[AV.ifc 152 (.agg [.str s,sL 1 P,sL 7 T])].length) * 16<=140737488355328,(St.own=St.own\/St.own=St.shr/\ns.length=ns.length)/\ns.length<=ns.length,MZ W 111 [.gp 100000 0,.agg [iA 6,iA 0,.str [],.gs 100006 0 1,.gs 100007 0 1],iA d] [(100000,gB (iA t)),(100006,.arr 9 1 [.str [36,101,113]] .own),(100007,.arr 25 5 [eV h2 l2] .own)] (.ret (sL 7 T) [(100000,gB (iA t2)),(100006,.arr 9 1 [.str [36,101,113]] .own),(100007,.arr 25 5 [eV h2 l2] .own)]),MZ W 110 [eV h2 l2] [] (.ret (bA false) []),MZ W 76 [.str s] [] (.ret (.tup [sL 1 P,iA 0,iA a]) []),MZ W 109 [.str s] [] (.ret (bA false) []),MZ W 107 [.str s] [] (.ret (bA false) []),(encVs l)[(i:Int).toNat]?=some (eV h2 l2),(List.map AV.str h.names)[(i:Int).toNat]?=some (AV.str s),decide ((i:Int)<m)=true]):=kr
theorem e111_0 (W:World) (d t t2:Int) (h2:JH) (l2:List JV):sF W {lp:=true,tl:=[169]} 111 [.gp 100000 0,.agg [iA 6,iA 0,.str [],.gs 100006 0 1,.gs 100007 0 1],iA d] [(100000,.box (iA t) .own),(100006,.arr 9 1 [.str [36,101,113]] .own),(100007,.arr 25 5 [eV h2 l2] .own)] 100008 [aE 11,bf,ee,.un,aE 3,bf,ee,cR (.fn (Fn.func 170) [] [(eV h2 l2).ip 0]) (rdH t2),ee,.un,ee] []=.ok (.ret (.gs 100018 0 1) [(100000,gB (iA t2)),(100006,.arr 9 1 [.str [36,101,113]] .own),(100007,.arr 25 5 [eV h2 l2] .own),(100018,.arr 158 7 [.agg [.str [36,101,113],iA h2.kind,iA h2.int,.str h2.3,sL 1 (List.map AV.str h2.names),sL 5 (encVs l2),.fn (Fn.func 170) [] [(eV h2 l2).ip 0]]] .own)],[aE 9999999],[MZ W 169 [.gp 100000 0,eV h2 l2,iA d] [(100000,gB (iA (IntKind.i64.wrap (t+1))))] (.ret (.fn (Fn.func 170) [] [(eV h2 l2).ip 0]) [(100000,gB (iA t2))]),decide (t=64)=false,decide (16<d)=false]):=kr
theorem x63_0 (W:World) (h:JH) (l:List JV) (d t m:Int) (ns:List AV) (i:Nat):sQ W {lp:=true} 63 0 [100000] [0,2,4,6,7,27,28] (S63 h l d t ns m i) [bf,ee]=.ok ((.exit 0,{t:=[(0,.gp 100000 0),(2,iA d),(4,.gp 100001 0),(6,.gp 100002 0),(7,.gp 100003 0),(27,iA m),(28,iA (i:Int))],h:=[(100000,gB (iA t)),(100001,gB (eV h l)),(100002,gB (.agg [.val (Value.slice none 0 0)])),(100003,gB (.agg [.gs 100004 0 ns.length])),(100004,.arr 146 1 ns .own)]}),[ee],[decide ((i:Int)<m)=false]):=kr
theorem p63_0 (W:World) (h:JH) (l:List JV) (d t t2 m:Int) (ns:List AV):sF W {lp:=true,fin:=9} 63 [.gp 100000 0,eV h l,iA d] (rdH t) 100001 [bf,bf,ee,.loopM [] [(100004,1)] (S63 h l d t [] m 0) (.exit 0) (E63 t2 ns),ee,.fin [] [] (.agg [.gs 100004 0 ns.length]) [(100000,gB (iA t2)),(100004,.arr 146 1 ns .own)],ee] []=.ok (.ret (.agg [.gs 100004 0 ns.length]) [(100000,gB (iA t2)),(100004,.arr 146 1 ns .own)],[ee],[MatchK [100000] [] [] {t:=[(0,.agg [.gs 100004 0 ns.length])],h:=[(100000,gB (iA t2)),(100002,gB (.agg [.gs 100004 0 ns.length])),(100003,gB (.agg [.gs 100004 0 ns.length])),(100004,.arr 146 1 ns .own)]} {t:=[(0,.agg [.gs 100004 0 ns.length])],h:=[(100000,gB (iA t2)),(100004,.arr 146 1 ns .own)]},LZ W [100000] 63 0 (S63 h l d t [] m 0) (.exit 0) (E63 t2 ns),MatchK [100000] [] [(100004,1)] {t:=[(0,.gp 100000 0),(2,iA d),(4,.gp 100001 0),(6,.gp 100002 0),(7,.gp 100003 0),(27,iA (if (↑(encVs l).length:Int)<(↑(List.map AV.str h.names).length:Int) then (↑(encVs l).length:Int) else (↑(List.map AV.str h.names).length:Int))),(28,iA 0)],h:=[(100000,gB (iA t)),(100001,gB (eV h l)),(100002,gB (.agg [.val (Value.slice none 0 0)])),(100003,gB (.agg [.val (Value.slice none 0 0)]))]} {t:=[(0,.gp 100000 0),(2,iA d),(4,.gp 100001 0),(6,.gp 100002 0),(7,.gp 100003 0),(27,iA m),(28,iA 0)],h:=[(100000,gB (iA t)),(100001,gB (eV h l)),(100002,gB (.agg [.val (Value.slice none 0 0)])),(100003,gB (.agg [.gs 100004 0 0])),(100004,.arr 146 1 [] .own)]},decide (16<d)=false,(!decide (h.kind=6))=false]):=kr
theorem b108_0 (W:World) (h:JH) (l:List JV) (d t t2:Int) (ns:List AV) (i:Nat) (s:List UInt8) (h2:JH) (l2:List JV) (N:List AV):sQ W {lp:=true,tl:=[63]} 108 0 [100000] [0,3,9,25,26,27] (S108 l d t s ns i) [bt,aE 1,oS (eV h2 l2),ee,cR (.agg [sL 1 N]) (rdH t2),aE 1,.lg,.lg,ee]=.ok ((.normal,{t:=[(0,.gp 100000 0),(3,iA d),(9,.gp 100002 0),(25,sL 5 (encVs l)),(26,iA (l.length:Int)),(27,iA (IntKind.i64.wrap ((i:Int)+1)))],h:=[(100000,gB (iA t2)),(100002,gB (.agg [.str s,.gs 100006 0 (ns.length+[AV.ifc 105 (.agg [sL 1 N])].length)])),(100003,.dead),(100004,gB (eV h2 l2)),(100005,.arr 146 1 [.ifc 105 (.agg [sL 1 N])] .own),(100006,.arr 146 1 (List.take ns.length ns++[AV.ifc 105 (.agg [sL 1 N])]) .own)]}),[ee],[(ns.length+[AV.ifc 105 (.agg [sL 1 N])].length) * 16<=140737488355328,(St.own=St.own\/St.own=St.shr/\ns.length=ns.length)/\ns.length<=ns.length,MZ W 63 [.gp 100000 0,eV h2 l2,iA (IntKind.i64.wrap (d+1))] [(100000,gB (iA t))] (.ret (.agg [sL 1 N]) [(100000,gB (iA t2))]),(encVs l)[(i:Int).toNat]?=some (eV h2 l2),decide ((i:Int)<(l.length:Int))=true]):=kr
theorem b108_1 (W:World) (h:JH) (l:List JV) (d t:Int) (ns:List AV) (i:Nat) (s:List UInt8):sQ W {lp:=true,tl:=[63]} 108 0 [100000] [0,3,9,25,26,27] (S108 l d t s ns i) [bf,ee]=.ok ((.exit 0,{t:=[(0,.gp 100000 0),(3,iA d),(9,.gp 100002 0),(25,sL 5 (encVs l)),(26,iA (l.length:Int)),(27,iA (i:Int))],h:=[(100000,gB (iA t)),(100002,gB (.agg [.str s,.gs 100003 0 ns.length])),(100003,.arr 146 1 ns .own)]}),[ee],[decide ((i:Int)<(l.length:Int))=false]):=kr
theorem p108_0 (W:World) (h:JH) (l:List JV) (d t t2:Int) (ns:List AV) (s:List UInt8):sF W {lp:=true,fin:=9} 108 [.gp 100000 0,.str s,eV h l,iA d] (rdH t) 100001 [bf,bf,bf,bf,bf,bf,ee,.loopM [] [(100003,1)] (S108 l d t s [] 0) (.exit 0) (E108 t2 s ns),ee,.fin [] [] (.ifc 155 (.agg [.str s,.gs 100003 0 ns.length])) [(100000,gB (iA t2)),(100003,.arr 146 1 ns .own)],ee] []=.ok (.ret (.ifc 155 (.agg [.str s,.gs 100003 0 ns.length])) [(100000,gB (iA t2)),(100003,.arr 146 1 ns .own)],[ee],MatchK [100000] [] [] {t:=[(0,.ifc 155 (.agg [.str s,.gs 100003 0 ns.length]))],h:=[(100000,gB (iA t2)),(100002,gB (.agg [.str s,.gs 100003 0 ns.length])),(100003,.arr 146 1 ns .own)]} {t:=[(0,.ifc 155 (.agg [.str s,.gs 100003 0 ns.length]))],h:=[(100000,gB (iA t2)),(100003,.arr 146 1 ns .own)]}::LZ W [100000] 108 0 (S108 l d t s [] 0) (.exit 0) (E108 t2 s ns)::MatchK [100000] [] [(100003,1)] {t:=[(0,.gp 100000 0),(3,iA d),(9,.gp 100002 0),(25,sL 5 (encVs l)),(26,iA (↑(encVs l).length:Int)),(27,iA 0)],h:=[(100000,gB (iA t)),(100001,gB (eV h l)),(100002,gB (.agg [.str s,.val (Value.slice none 0 0)]))]} {t:=[(0,.gp 100000 0),(3,iA d),(9,.gp 100002 0),(25,sL 5 (encVs l)),(26,iA (l.length:Int)),(27,iA 0)],h:=[(100000,gB (iA t)),(100002,gB (.agg [.str s,.gs 100003 0 0])),(100003,.arr 146 1 [] .own)]}::(decide ((↑(encVs l).length:Int)=0)=false)::((!decide (h.kind=5))=false)::(d4 ((!decide (h.kind=5))=false) [])):=kr
theorem p17_0 (W:World) (h:JH) (l:List JV) (t:Int) (N:List AV):sfunD Tryz.prog W {lp:=true,tl:=[63]} 1000 9 17 [eV h l] [] 100000 [ee,cR (.agg [sL 1 N]) [(100003,gB (iA t))],ee] []=.ok (.ret (.tup [.gp 100005 0,iA 0]) [(100005,gB (.agg [sL 1 N,iA t]))],[ee],[MZ W 63 [.gp 100003 0,eV h l,iA 0] [(100003,gB (.agg [iA 0]))] (.ret (.agg [sL 1 N]) [(100003,gB (iA t))])]):=kr
theorem call63:callable Tryz.prog 63=true:=kr
theorem call108:callable Tryz.prog 108=true:=kr
theorem call17:callable Tryz.prog 17=true:=kr
mutual
def nmV:JV->Prop
 | .mk h l=>(∀ s ∈ h.names,s.length<=2 ^ 30)/\nmVs l
def nmVs:List JV->Prop
 | []=>True
 | j::l=>nmV j/\nmVs l
end
theorem nmVs_mem:∀ {l:List JV},nmVs l->∀ x ∈ l,nmV x
 | [],_,x,hx=>by cases hx
 | j::l,h,x,hx=>by
  rcases List.mem_cons.1 hx with rfl|hx
  ·exact h.1
  ·exact nmVs_mem h.2 x hx
theorem nmV_mem {v:JV} (h:nmV v) {x:JV} (hx:x ∈ v.items):nmV x:=by
 obtain ⟨hh,l⟩:=v;exact nmVs_mem h.2 x hx
theorem nmV_name {v:JV} (h:nmV v) {s:List UInt8} (hs:s ∈ v.names):s.length<=2 ^ 30:=by
 obtain ⟨hh,l⟩:=v;exact h.1 s hs
theorem foldX_le {α:Type} {f:α->Int->Except Int Int}:∀ {l:List α},(∀ a ∈ l,∀ u u',f a u=.ok u'->u<=u'/\(u<=64->u'<=64))->∀ {t t':Int},foldX f l t=.ok t'->t<=t'/\(t<=64->t'<=64)
 | [],_,t,t',h=>by simp only [foldX] at h;cases h;exact ⟨Int.le_refl _,id⟩
 | a::l,hf,t,t',h=>by
  simp only [foldX] at h
  split at h
  ·rename_i t1 h1
   have q1:=hf a (by simp) _ _ h1
   have q2:=foldX_le (fun b hb=>hf b (by simp [hb])) h
   exact ⟨by omega,fun q=>q2.2 (q1.2 q)⟩
  ·cases h
theorem chk_le:∀ n,(∀ v d t t',chkT n v d t=.ok t'->t<=t'/\(t<=64->t'<=64))/\(∀ v d t t',chkQ n v d t=.ok t'->t<=t'/\(t<=64->t'<=64))
 | 0=>⟨fun v d t t' h=>by rw [chkT] at h;cases h;exact ⟨Int.le_refl _,id⟩,fun v d t t' h=>by rw [chkQ] at h;cases h;exact ⟨Int.le_refl _,id⟩⟩
 | n+1=>by
  obtain ⟨iT,iQ⟩:=chk_le n
  refine ⟨fun v d t t' h=>?_,fun v d t t' h=>?_⟩
  ·rw [chkT] at h
   split at h
   ·cases h
   split at h
   ·cases h
   refine foldX_le (fun p hp u u' hu=>?_) h
   split at hu
   ·cases hu
   split at hu
   ·cases hu
   split at hu
   ·cases hu
   split at hu
   ·have:=iT _ _ _ _ hu;exact ⟨by omega,fun q=>this.2 (by omega)⟩
   split at hu
   ·split at hu
    ·have:=iT _ _ _ _ hu;exact ⟨by omega,fun q=>this.2 (by omega)⟩
    ·have:=iQ _ _ _ _ hu;exact ⟨by omega,fun q=>this.2 (by omega)⟩
   ·cases hu;exact ⟨by omega,fun q=>by omega⟩
  ·rw [chkQ] at h
   split at h
   ·cases h
   split at h
   ·cases h
   refine foldX_le (fun p hp u u' hu=>?_) h
   split at hu
   ·split at hu
    ·cases hu
    ·exact foldX_le (fun y hy u u' hu=>iQ _ _ _ _ hu) hu
   split at hu
   ·cases hu
   split at hu
   ·cases hu
   split at hu
   ·exact iT _ _ _ _ hu
   split at hu
   ·cases hu
   ·cases hu;exact ⟨by omega,fun q=>by omega⟩
theorem asks_clo (T N:List AV) (nm:List UInt8) (x:JV):(asksA T N nm x).clo=true:=by
 have key:∀ (c:Prop) [Decidable c] (a b:AV),a.clo=true->b.clo=true->(if c then a else b).clo=true:=by
  intro c _ a b ha hb
  by_cases q:c
  ·rw [if_pos q];exact ha
  ·rw [if_neg q];exact hb
 unfold asksA
 repeat' (first|refine key _ _ _ ?_ ?_|rfl)
theorem terms_clo {F:List UInt8×JV->AV} (hF:∀ p,(F p).clo=true):∀ ps,cloL (termsA F ps)=true
 | []=>rfl
 | p::ps=>by
  have:=terms_clo hF ps
  simp only [termsA,List.map_cons,cloL] at this ⊢
  rw [this,term_clo p.1 p.2 (hF p)];rfl
theorem terms_snoc {F:List UInt8×JV->AV} {ps:List (List UInt8×JV)} {i:Nat} {p:List UInt8×JV} (hp:ps[i]?=some p):termsA F (ps.take (i+1))=termsA F (ps.take i)++[termA p.1 p.2 (F p)]:=by
 unfold termsA;rw [take_snoc hp,List.map_append];rfl
def TestR (W:World) (n:Nat):Prop:=∀ (v:JV) (d t t':Int),chkT n v d t=.ok t'->sizeV v<n->cntV v<=2 ^ 30->nmV v->0<=d->0<=t->t<=64->MutC Tryz.prog W 111 [.gp 100000 0,encV v,iA d] (rdH t) (.ret (.sl 7 (tT n v) []) (rdH t'))
def QueryR (W:World) (n:Nat):Prop:=∀ (v:JV) (d t t':Int),chkQ n v d t=.ok t'->sizeV v<n->cntV v<=2 ^ 30->nmV v->0<=d->0<=t->t<=64->MutC Tryz.prog W 63 [.gp 100000 0,encV v,iA d] (rdH t) (.ret (.agg [.sl 1 (qN n v) []]) (rdH t'))
theorem take_snocA (ts:List AV) (a:AV):List.take ts.length ts++[a]=ts++[a]:=by rw [List.take_length]
section
variable (W:World) (h:JH) (l:List JV)
theorem round111 (n:Nat) (hT:TestR W n) (hQ:QueryR W n) (d t t1:Int) (ts:List AV) (m:Int) (i:Nat) (p:List UInt8×JV) (hp:(JV.mk h l).mems[i]?=some p) (hi:(i:Int)<m) (hm:m<=2 ^ 40) (hn:ts.length<=2 ^ 30) (hts:cloL ts=true) (hd:0<=d/\d<=16) (ht0:0<=t) (ht64:t<=64)
 (hs:sizeV p.2<n) (hcn:cntV p.2<=2 ^ 30) (hnm:nmV p.2)
 (hu:(if 64<=t then Except.error 43 else if (!isOp p.1)=true then .error 41 else if (!takesB p.1 p.2)=true then .error 42 else if p.1=sNot then chkT n p.2 (d+1) (t+1) else if p.1=sElem then (if (isTestB p.2 && !joinsB (firstS p.2))=true then chkT n p.2 (d+1) (t+1) else chkQ n p.2 (d+1) (t+1)) else .ok (t+1))=(.ok t1:Except Int Int)) :
 BodyC Tryz.prog W [100000] (nslots Tryz.prog 111) (loopOf Tryz.prog 111 0) (S111 h l d t ts m i) .normal (S111 h l d t1 (ts++[termA p.1 p.2 (asksA (tT n p.2) (qN n p.2) p.1 p.2)]) m (i+1:Nat)):=by
 obtain ⟨nm,x⟩:=p
 have hz:=(List.getElem?_zip_eq_some (l₁:=h.names) (l₂:=l) (i:=i)).1 hp
 obtain ⟨hx,hv⟩:=hz
 simp only at hu hs hcn hnm hx hv ⊢
 split at hu
 ·cases hu
 rename_i h64
 have ht:0<=t/\t<64:=⟨ht0,by omega⟩
 split at hu
 ·cases hu
 rename_i hop
 split at hu
 ·cases hu
 rename_i htk
 have htk:takesB nm x=true:=by simpa using htk
 rcases op_cases (by simpa using hop:isOp nm=true) with rfl|rfl|rfl|rfl|rfl|rfl|rfl|rfl|rfl|rfl|rfl|rfl|rfl|rfl|rfl
 ·rw [if_neg (by decide),if_neg (by decide)] at hu
  cases hu
  exact st_sEq W h l d t (t+1) m ts i [] .top x hi hm hn ht hts hx hv (mk_169 W x d (t+1))
 ·rw [if_neg (by decide),if_neg (by decide)] at hu
  cases hu
  exact st_sNe W h l d t (t+1) m ts i [] .top x hi hm hn ht hts hx hv (mk_172 W x d (t+1))
 ·rw [if_neg (by decide),if_neg (by decide)] at hu
  cases hu
  exact st_sGt W h l d t (t+1) m ts i [] .top x hi hm hn ht hts hx hv (mk_204 W x d (t+1) _)
 ·rw [if_neg (by decide),if_neg (by decide)] at hu
  cases hu
  exact st_sGte W h l d t (t+1) m ts i [] .top x hi hm hn ht hts hx hv (mk_204 W x d (t+1) _)
 ·rw [if_neg (by decide),if_neg (by decide)] at hu
  cases hu
  exact st_sLt W h l d t (t+1) m ts i [] .top x hi hm hn ht hts hx hv (mk_204 W x d (t+1) _)
 ·rw [if_neg (by decide),if_neg (by decide)] at hu
  cases hu
  exact st_sLte W h l d t (t+1) m ts i [] .top x hi hm hn ht hts hx hv (mk_204 W x d (t+1) _)
 ·rw [if_neg (by decide),if_neg (by decide)] at hu
  cases hu
  exact st_sIn W h l d t (t+1) m ts i [] .top x hi hm hn ht hts hx hv (mk_208 W x d (t+1) true (of_decide_eq_true (show decide (x.kind=5)=true from htk)))
 ·rw [if_neg (by decide),if_neg (by decide)] at hu
  cases hu
  exact st_sNin W h l d t (t+1) m ts i [] .top x hi hm hn ht hts hx hv (mk_208 W x d (t+1) false (of_decide_eq_true (show decide (x.kind=5)=true from htk)))
 ·rw [if_neg (by decide),if_neg (by decide)] at hu
  cases hu
  exact st_sAll W h l d t (t+1) m ts i [] .top x hi hm hn ht hts hx hv (mk_180 W x d (t+1) (of_decide_eq_true (show decide (x.kind=5)=true from htk)))
 ·rw [if_neg (by decide),if_neg (by decide)] at hu
  cases hu
  exact st_sExists W h l d t (t+1) m ts i [] .top x hi hm hn ht hts hx hv (mk_181 W x d (t+1) (of_decide_eq_true (show decide (x.kind=1\/x.kind=2)=true from htk)))
 ·rw [if_neg (by decide),if_neg (by decide)] at hu
  cases hu
  have hk:(decide (x.kind=4) && decide (0<=typeN x.text))=true:=htk
  simp only [Bool.and_eq_true,decide_eq_true_eq] at hk
  exact st_sType W h l d t (t+1) m ts i (kindsA x.text) .top x hi hm hn ht hts hx hv (mk_182 W x d (t+1) hk.1 hk.2)
 ·rw [if_neg (by decide),if_neg (by decide)] at hu
  cases hu
  have hk:(decide (x.kind=3) && decide (0<=x.int))=true:=htk
  simp only [Bool.and_eq_true,decide_eq_true_eq] at hk
  exact st_sSize W h l d t (t+1) m ts i [] .top x hi hm hn ht hts hx hv (mk_183 W x d (t+1) hk.1 hk.2)
 ·rw [if_neg (by decide),if_neg (by decide)] at hu
  cases hu
  have hk:(decide (x.kind=5) && (match x.items with|[a,b]=>decide (a.kind=3) && decide (b.kind=3) && !decide (a.int=0)|_=>false))=true:=htk
  simp only [Bool.and_eq_true,decide_eq_true_eq] at hk
  obtain ⟨k5,h2⟩:=hk
  split at h2
  ·rename_i a b e
   simp only [Bool.and_eq_true,Bool.not_eq_true',decide_eq_false_iff_not,decide_eq_true_eq] at h2
   exact st_sMod W h l d t (t+1) m ts i [] .top x hi hm hn ht hts hx hv (mk_184 W x d (t+1) a b k5 e h2.1.1 h2.1.2 h2.2)
  ·cases h2
 ·rw [if_pos rfl] at hu
  exact st_sNot W h l d t t1 m ts i (tT n x) .top x hi hm hn ht hts hx hv (mk_185 W x d (t+1) (by omega) _ _ (hT x (d+1) (t+1) t1 hu hs hcn hnm (by omega) (by omega) (by omega)))
 ·rw [if_neg (by decide),if_pos rfl] at hu
  exact st_sElem W h l d t t1 m ts i [] (if (isTestB x && !joinsB (firstS x))=true then .fn (.func 225) [] [.ip (.sl 7 (tT n x) []) 0] else .fn (.func 226) [] [.ip (.agg [.sl 1 (qN n x) []]) 0]) x hi hm hn ht hts hx hv (mk_186 W x d (t+1) (by omega) _ _ _ (fun e=>hT x (d+1) (t+1) t1 (by rw [if_pos e] at hu;exact hu) hs hcn hnm (by omega) (by omega) (by omega)) (fun e=>hQ x (d+1) (t+1) t1 (by rw [if_neg (by rw [e];decide)] at hu;exact hu) hs hcn hnm (by omega) (by omega) (by omega)))
theorem test111 (n:Nat) (hT:TestR W n) (hQ:QueryR W n):TestR W (n+1):=by
 intro v d t t' hk hsz hcn hnm hd0 ht0 ht64
 obtain ⟨h,l⟩:=v
 rw [chkT] at hk
 split at hk
 ·cases hk
 rename_i hne
 split at hk
 ·cases hk
 rename_i hd16
 have hln:=mems_ln (.mk h l)
 have hme:=mem_min h l
 have hml:=JV.mems_len (.mk h l)
 have k6:h.kind=6:=by
  by_cases q:h.kind=6
  ·exact q
  ·exact absurd (.inl q) hne
 have hmne:(JV.mk h l).mems ≠ []:=fun e=>hne (.inr e)
 have hm0:0<(JV.mk h l).mem:=by rw [<-hml];exact List.length_pos_iff.2 hmne
 have m1:=JV.mem_names (.mk h l)
 have m2:=JV.mem_items (.mk h l)
 simp only [JV.names,JV.items,JV.hd] at m1 m2
 have hlp:LoopC Tryz.prog W [100000] (nslots Tryz.prog 111) (loopOf Tryz.prog 111 0) (S111 h l d t [] ((JV.mk h l).mem:Nat) 0) (.exit 0) (E111 t' (termsA (fun p=>asksA (tT n p.2) (qN n p.2) p.1 p.2) (JV.mk h l).mems)):=by
  refine loopC_inv (fun q:Nat×Int=>S111 h l d q.2 (termsA (fun p=>asksA (tT n p.2) (qN n p.2) p.1 p.2) ((JV.mk h l).mems.take q.1)) ((JV.mk h l).mem:Nat) q.1)
   (fun q=>q.1<=(JV.mk h l).mems.length/\foldX _ ((JV.mk h l).mems.drop q.1) q.2=.ok t'/\0<=q.2/\q.2<=64) (fun q=>(JV.mk h l).mems.length - q.1) (by simp) ?_ (0,t) ⟨by simp,hk,ht0,ht64⟩
  rintro ⟨i,u⟩ ⟨a1,a2,a3,a4⟩
  simp only at a1 a2 a3 a4
  by_cases hi:i<(JV.mk h l).mems.length
  ·left
   obtain ⟨p,hp⟩:=getOf hi
   rw [drop_get hp,foldX] at a2
   split at a2
   ·rename_i u1 hu
    have hpm:=mems_mem (List.mem_of_getElem? hp)
    have hpi:=mem_item hpm.2
    have hle:u<=u1/\(u<=64->u1<=64):=by
     have hu':=hu
     split at hu'
     ·cases hu'
     split at hu'
     ·cases hu'
     split at hu'
     ·cases hu'
     split at hu'
     ·have:=(chk_le n).1 _ _ _ _ hu';exact ⟨by omega,fun q=>this.2 (by omega)⟩
     split at hu'
     ·split at hu'
      ·have:=(chk_le n).1 _ _ _ _ hu';exact ⟨by omega,fun q=>this.2 (by omega)⟩
      ·have:=(chk_le n).2 _ _ _ _ hu';exact ⟨by omega,fun q=>this.2 (by omega)⟩
     ·cases hu';exact ⟨by omega,fun q=>by omega⟩
    refine ⟨(i+1,u1),⟨by simp only;omega,a2,by simp only;omega,hle.2 a4⟩,by simp only;omega,?_⟩
    simp only
    rw [terms_snoc hp]
    exact round111 W h l n hT hQ d u u1 _ _ i p hp (by omega) (by omega) (by simp only [termsA,List.length_map,List.length_take];omega) (terms_clo (fun p=>asks_clo _ _ _ _) _) ⟨hd0,by omega⟩ a3 a4 (by omega) (by omega) (nmV_mem hnm hpm.2) hu
   ·cases a2
  ·right
   have hil:i=(JV.mk h l).mems.length:=by omega
   subst hil
   rw [List.drop_length] at a2
   simp only [foldX] at a2
   cases a2
   simp only
   rw [List.take_length]
   have hb1:decide (((JV.mk h l).mems.length:Int)<(((JV.mk h l).mem:Nat):Int))=false:=decide_eq_false (by omega)
   have hcl:=terms_clo (F:=fun p=>asksA (tT n p.2) (qN n p.2) p.1 p.2) (fun p=>asks_clo _ _ _ _) (JV.mk h l).mems
   exact body_of_sbodyK mixedz (x111_0 W h l d t' _ _ _) Fb14_z3 [] [] Fb14_z1
 rw [tT]
 have hcl:=terms_clo (F:=fun p=>asksA (tT n p.2) (qN n p.2) p.1 p.2) (fun p=>asks_clo _ _ _ _) (JV.mk h l).mems
 generalize termsA (fun p=>asksA (tT n p.2) (qN n p.2) p.1 p.2) (JV.mk h l).mems=ts at hlp hcl
 have hc:=ops148 W
 have hb1:(!decide (h.kind=6))=false:=by rw [decide_eq_true k6];rfl
 have hb2:decide (((List.map AV.str h.names).length:Int)=0)=false:=decide_eq_false (by rw [List.length_map];omega)
 have hb3:decide (((encVs l).length:Int)=0)=false:=decide_eq_false (by rw [encVs_len];omega)
 have hM:=mut_of_sfun mixedz call111 rfl (p111_1 W h l d t t' ((JV.mk h l).mem:Nat) ts) Fb14_z4
 have h2:=mut_frz [(100003,.arr 158 7 ts .own)] hM (frz2 rfl hcl)
 rw [show clA [(100003,.arr 158 7 ts .own)] (.gs 100003 0 ts.length)=.sl 7 ts [] by simp [clA,lk]] at h2
 exact mut_match [] [] h2 Fb14_z1
theorem wrap111 (x:JV) (d t:Int) (hd:0<=d/\d<=16) (ht:0<=t/\t<64):MutC Tryz.prog W 111 [.gp 100000 0,.agg [iA 6,iA 0,.str [],.gs 100006 0 1,.gs 100007 0 1],iA d] [(100000,.box (iA t) .own),(100006,.arr 9 1 [.str [36,101,113]] .own),(100007,.arr 25 5 [encV x] .own)]
 (.ret (.sl 7 (termsA (fun p=>asksA [] [] p.1 p.2) [(sEq,x)]) []) [(100000,.box (iA (t+1)) .own),(100006,.arr 9 1 [.str [36,101,113]] .own),(100007,.arr 25 5 [encV x] .own)]):=by
 have hwt:IntKind.i64.wrap (t+1)=t+1:=IntWalk.i64_in _ (by omega)
 have hc:=mk_169 W x d (t+1)
 unfold MkC at hc
 rw [<-hwt] at hc
 obtain ⟨h2,l2⟩:=x
 have hb1:decide (t=64)=false:=decide_eq_false (by omega)
 have hM:=mut_of_sfun mixedz call111 rfl (e111_0 W d t (IntKind.i64.wrap (t+1)) h2 l2) Fb14_z3
 have h3:=mut_frz [(100018,.arr 158 7 (termsA (fun p=>asksA [] [] p.1 p.2) [(sEq,.mk h2 l2)]) .own)] hM (frz2 rfl (terms_clo (fun p=>asks_clo _ _ _ _) _))
 rw [hwt] at h3
 exact mut_match [] [] (r:=.sl 7 (termsA (fun p=>asksA [] [] p.1 p.2) [(sEq,.mk h2 l2)]) []) h3 Fb14_z1
def nodeA (n:Nat) (p:List UInt8×JV):AV:=if joinsB p.1 then groupA p.1 (nodesQ (qN n) p.2.items) else clauseA p.1 ((parseP p.1).map AV.str) (if isTestB p.2 then tT n p.2 else termsA (fun p=>asksA [] [] p.1 p.2) [(sEq,p.2)])
theorem node_clo (n:Nat) (p:List UInt8×JV):(nodeA n p).clo=true:=by unfold nodeA;split<;>rfl
theorem nodes_clo (n:Nat):∀ ps:List (List UInt8×JV),cloL (ps.map (nodeA n))=true
 | []=>rfl
 | p::ps=>by simp only [List.map_cons,cloL,node_clo,nodes_clo n ps,Bool.and_self]
theorem nodesQ_clo (G:JV->List AV):∀ ys:List JV,cloL (nodesQ G ys)=true
 | []=>rfl
 | y::ys=>by have:=nodesQ_clo G ys;simp only [nodesQ,List.map_cons,cloL] at this ⊢;rw [this];rfl
theorem group108 (n:Nat) (hQ:QueryR W n) (s:List UInt8) (x:JV) (d t t':Int) (hk:foldX (fun y u=>chkQ n y (d+1) u) x.items t=.ok t') (h5:x.kind=5) (hne:x.items ≠ []) (hsz:sizeV x<=n) (hcn:cntV x<=2 ^ 30) (hnm:nmV x) (hd:0<=d/\d<=16) (ht0:0<=t) (ht64:t<=64) :
 MutC Tryz.prog W 108 [.gp 100000 0,.str s,encV x,iA d] (rdH t) (.ret (groupA s (nodesQ (qN n) x.items)) (rdH t')):=by
 obtain ⟨h,l⟩:=x
 have hcl0:=cntV_len (.mk h l)
 simp only [JV.items,JV.names,JV.hd] at hk hne hcl0
 have k5:h.kind=5:=h5
 have hwd:IntKind.i64.wrap (d+1)=d+1:=IntWalk.i64_in _ (by omega)
 have hlp:LoopC Tryz.prog W [100000] (nslots Tryz.prog 108) (loopOf Tryz.prog 108 0) (S108 l d t s [] 0) (.exit 0) (E108 t' s (nodesQ (qN n) l)):=by
  refine loopC_inv (fun q:Nat×Int=>S108 l d q.2 s (nodesQ (qN n) (l.take q.1)) q.1) (fun q=>q.1<=l.length/\foldX (fun y u=>chkQ n y (d+1) u) (l.drop q.1) q.2=.ok t'/\0<=q.2/\q.2<=64) (fun q=>l.length - q.1) (by simp) ?_ (0,t) ⟨by simp,hk,ht0,ht64⟩
  rintro ⟨i,u⟩ ⟨a1,a2,a3,a4⟩
  simp only at a1 a2 a3 a4
  have hws:IntKind.i64.wrap ((i:Int)+1)=((i+1:Nat):Int):=wrap_succ (by omega)
  by_cases hi:i<l.length
  ·left
   obtain ⟨y,hy⟩:=getOf hi
   rw [drop_get hy,foldX] at a2
   split at a2
   ·rename_i u1 hu
    have hle:=(chk_le n).2 _ _ _ _ hu
    have hyi:=mem_item (v:=.mk h l) (List.mem_of_getElem? hy)
    refine ⟨(i+1,u1),⟨by simp only;omega,a2,by simp only;omega,hle.2 a4⟩,by simp only;omega,?_⟩
    have hc:MutC Tryz.prog W 63 [.gp 100000 0,encV y,iA (IntKind.i64.wrap (d+1))] (rdH u) (.ret (.agg [.sl 1 (qN n y) []]) (rdH u1)):=by
     rw [hwd];exact hQ y (d+1) u u1 hu (by omega) (by omega) (nmV_mem (v:=.mk h l) hnm (List.mem_of_getElem? hy)) (by omega) a3 a4
    have hget:(encVs l)[((i:Int)).toNat]?=some (encV y):=by rw [Int.toNat_natCast];exact encVs_get hy
    have hsn:nodesQ (qN n) (l.take (i+1))=nodesQ (qN n) (l.take i)++[.ifc 105 (.agg [.sl 1 (qN n y) []])]:=by unfold nodesQ;rw [take_snoc hy,List.map_append];rfl
    have hlen:(nodesQ (qN n) (l.take i)).length<=2 ^ 30:=by simp only [nodesQ,List.length_map,List.length_take];omega
    have hcl:=nodesQ_clo (qN n) (l.take (i+1))
    simp only
    rw [hsn] at hcl ⊢
    generalize nodesQ (qN n) (l.take i)=ns at hlen hcl
    obtain ⟨h2,l2⟩:=y
    exact body_of_sbodyK mixedz (b108_0 W h l d u u1 ns i s h2 l2 (qN n (.mk h2 l2))) Fb14_z3 [(100003,100006)] [] Fb14_z1
   ·cases a2
  ·right
   have hil:i=l.length:=by omega
   subst hil
   rw [List.drop_length] at a2
   simp only [foldX] at a2
   cases a2
   simp only
   rw [List.take_length]
   have hcl:=nodesQ_clo (qN n) l
   exact body_of_sbodyK mixedz (b108_1 W h l d t' _ _ s) Fb14_z3 [] [] Fb14_z1
 have hcl:=nodesQ_clo (qN n) l
 simp only [JV.items]
 generalize nodesQ (qN n) l=ns at hlp hcl
 have hb1:(!decide (h.kind=5))=false:=by rw [decide_eq_true k5];rfl
 have hb2:decide (((encVs l).length:Int)=0)=false:=decide_eq_false (by rw [encVs_len];have:=List.length_pos_iff.2 hne;omega)
 have hM:=mut_of_sfun mixedz call108 rfl (p108_0 W h l d t t' ns s) Fb14_z4
 have h2:=mut_frz [(100003,.arr 146 1 ns .own)] hM (frz2 rfl hcl)
 rw [show clA [(100003,.arr 146 1 ns .own)] (.ifc 155 (.agg [.str s,.gs 100003 0 ns.length]))=groupA s ns by simp [clA,clL,lk,groupA]] at h2
 exact mut_match [] [] h2 Fb14_z1
theorem round63 (n:Nat) (hT:TestR W n) (hQ:QueryR W n) (d t t1:Int) (ns:List AV) (m:Int) (i:Nat) (p:List UInt8×JV) (hp:(JV.mk h l).mems[i]?=some p) (hi:(i:Int)<m) (hm:m<=2 ^ 40) (hn:ns.length<=2 ^ 30) (hcl:cloL (ns++[nodeA n p])=true) (hd:0<=d/\d<=16) (ht0:0<=t) (ht64:t<=64)
 (hs:sizeV p.2<n) (hcn:cntV p.2<=2 ^ 30) (hnm:nmV p.2) (hns:p.1.length<=2 ^ 30)
 (hu:(if joinsB p.1=true then (if p.2.kind ≠ 5\/p.2.items=[] then .error 42 else foldX (fun y t=>chkQ n y (d+1) t) p.2.items t) else if dollarB p.1=true then .error 41 else if parseE p.1 ≠ 0 then .error 20 else if isTestB p.2=true then chkT n p.2 d t else if 64<=t then .error 43 else .ok (t+1))=(.ok t1:Except Int Int)) :
 BodyC Tryz.prog W [100000] (nslots Tryz.prog 63) (loopOf Tryz.prog 63 0) (S63 h l d t ns m i) .normal (S63 h l d t1 (ns++[nodeA n p]) m (i+1:Nat)):=by
 obtain ⟨s,x⟩:=p
 have hz:=(List.getElem?_zip_eq_some (l₁:=h.names) (l₂:=l) (i:=i)).1 hp
 obtain ⟨hx,hv⟩:=hz
 simp only at hu hs hcn hnm hx hv hns hcl ⊢
 have hws:IntKind.i64.wrap ((i:Int)+1)=((i+1:Nat):Int):=wrap_succ (by omega)
 have hget:(List.map AV.str h.names)[((i:Int)).toNat]?=some (AV.str s):=by rw [Int.toNat_natCast];exact strs_get hx
 have hget2:(encVs l)[((i:Int)).toNat]?=some (encV x):=by rw [Int.toNat_natCast];exact encVs_get hv
 have hc1:=mut_of_pure (by rfl) (logical107 W s)
 unfold nodeA at hcl ⊢
 simp only at hcl ⊢
 by_cases hj:joinsB s=true
 ·rw [if_pos hj] at hu hcl ⊢
  rw [hj] at hc1
  split at hu
  ·cases hu
  rename_i hno
  have h5:x.kind=5:=Classical.byContradiction fun q=>hno (.inl q)
  have hc2:=group108 W n hQ s x d t t1 hu h5 (fun q=>hno (.inr q)) (by omega) hcn hnm hd ht0 ht64
  obtain ⟨h2,l2⟩:=x
  exact body_of_sbodyKW 100003 mixedz (g63_0 W h l d t t1 m ns i s h2 l2 (nodesQ (qN n) l2)) Fb14_z3 [(100004,100007)] [] Fb14_z1
 have hj':joinsB s=false:=by simpa using hj
 rw [if_neg hj] at hu hcl ⊢
 rw [hj'] at hc1
 split at hu
 ·cases hu
 rename_i hdl
 split at hu
 ·cases hu
 rename_i hpe
 have hpe:parseE s=0:=Classical.byContradiction hpe
 have hc2:=mut_of_pure (by rfl) (dollar109 W s)
 rw [show dollarB s=false by simpa using hdl] at hc2
 have hc3:=mut_of_pure (by rfl) (Parse76 W s hns)
 unfold parseAV at hc3
 rw [hpe] at hc3
 have hc4:=mut_of_pure (by simp only [cloL,encV_clo,Bool.and_self]) (isTest110 W x)
 by_cases ht:isTestB x=true
 ·rw [if_pos ht] at hu hcl ⊢
  rw [ht] at hc4
  have hc5:=hT x d t t1 hu hs hcn hnm hd.1 ht0 ht64
  obtain ⟨h2,l2⟩:=x
  exact body_of_sbodyKW 100003 mixedz (t63_0 W h l d t t1 m (parseA s) ns i s h2 l2 ((parseP s).map AV.str) (tT n (.mk h2 l2))) Fb14_z3 [(100004,100007)] [] Fb14_z1
 ·rw [if_neg ht] at hu hcl ⊢
  rw [show isTestB x=false by simpa using ht] at hc4
  split at hu
  ·cases hu
  cases hu
  have hc5:=wrap111 W x d t hd ⟨ht0,by omega⟩
  obtain ⟨h2,l2⟩:=x
  exact body_of_sbodyKW 100003 mixedz (n63_0 W h l d t (t+1) m (parseA s) ns i s h2 l2 ((parseP s).map AV.str) (termsA (fun p=>asksA [] [] p.1 p.2) [(sEq,.mk h2 l2)])) Fb14_z3 [(100004,100009)] [] Fb14_z1
theorem query63 (n:Nat) (hT:TestR W n) (hQ:QueryR W n):QueryR W (n+1):=by
 intro v d t t' hk hsz hcn hnm hd0 ht0 ht64
 obtain ⟨h,l⟩:=v
 rw [chkQ] at hk
 split at hk
 ·cases hk
 rename_i hne
 split at hk
 ·cases hk
 rename_i hd16
 have hln:=mems_ln (.mk h l)
 have hme:=mem_min h l
 have hml:=JV.mems_len (.mk h l)
 have k6:h.kind=6:=Classical.byContradiction hne
 have hlp:LoopC Tryz.prog W [100000] (nslots Tryz.prog 63) (loopOf Tryz.prog 63 0) (S63 h l d t [] ((JV.mk h l).mem:Nat) 0) (.exit 0) (E63 t' ((JV.mk h l).mems.map (nodeA n))):=by
  refine loopC_inv (fun q:Nat×Int=>S63 h l d q.2 (((JV.mk h l).mems.take q.1).map (nodeA n)) ((JV.mk h l).mem:Nat) q.1)
   (fun q=>q.1<=(JV.mk h l).mems.length/\foldX _ ((JV.mk h l).mems.drop q.1) q.2=.ok t'/\0<=q.2/\q.2<=64) (fun q=>(JV.mk h l).mems.length - q.1) (by simp) ?_ (0,t) ⟨by simp,hk,ht0,ht64⟩
  rintro ⟨i,u⟩ ⟨a1,a2,a3,a4⟩
  simp only at a1 a2 a3 a4
  by_cases hi:i<(JV.mk h l).mems.length
  ·left
   obtain ⟨p,hp⟩:=getOf hi
   rw [drop_get hp,foldX] at a2
   split at a2
   ·rename_i u1 hu
    have hpm:=mems_mem (List.mem_of_getElem? hp)
    have hpi:=mem_item hpm.2
    have hle:u<=u1/\(u<=64->u1<=64):=by
     have hu':=hu
     split at hu'
     ·split at hu'
      ·cases hu'
      ·exact foldX_le (fun y hy u u' hu=>(chk_le n).2 _ _ _ _ hu) hu'
     split at hu'
     ·cases hu'
     split at hu'
     ·cases hu'
     split at hu'
     ·exact (chk_le n).1 _ _ _ _ hu'
     split at hu'
     ·cases hu'
     ·cases hu';exact ⟨by omega,fun q=>by omega⟩
    have hsn:((JV.mk h l).mems.take (i+1)).map (nodeA n)=((JV.mk h l).mems.take i).map (nodeA n)++[nodeA n p]:=by rw [take_snoc hp,List.map_append];rfl
    have hcl:=nodes_clo n ((JV.mk h l).mems.take (i+1))
    refine ⟨(i+1,u1),⟨by simp only;omega,a2,by simp only;omega,hle.2 a4⟩,by simp only;omega,?_⟩
    simp only
    rw [hsn] at hcl ⊢
    exact round63 W h l n hT hQ d u u1 _ _ i p hp (by omega) (by omega) (by simp only [List.length_map,List.length_take];omega) hcl ⟨hd0,by omega⟩ a3 a4 (by omega) (by omega) (nmV_mem hnm hpm.2) (nmV_name hnm hpm.1) hu
   ·cases a2
  ·right
   have hil:i=(JV.mk h l).mems.length:=by omega
   subst hil
   rw [List.drop_length] at a2
   simp only [foldX] at a2
   cases a2
   simp only
   rw [List.take_length]
   have hb1:decide (((JV.mk h l).mems.length:Int)<(((JV.mk h l).mem:Nat):Int))=false:=decide_eq_false (by omega)
   have hcl:=nodes_clo n (JV.mk h l).mems
   exact body_of_sbodyK mixedz (x63_0 W h l d t' _ _ _) Fb14_z3 [] [] Fb14_z1
 rw [show qN (n+1) (.mk h l)=(JV.mk h l).mems.map (nodeA n) by rw [qN];rfl]
 have hcl:=nodes_clo n (JV.mk h l).mems
 generalize (JV.mk h l).mems.map (nodeA n)=ns at hlp hcl
 have hb1:(!decide (h.kind=6))=false:=by rw [decide_eq_true k6];rfl
 have hM:=mut_of_sfun mixedz call63 rfl (p63_0 W h l d t t' ((JV.mk h l).mem:Nat) ns) Fb14_z4
 have h2:=mut_frz [(100004,.arr 146 1 ns .own)] hM (frz2 rfl hcl)
 rw [show clA [(100004,.arr 146 1 ns .own)] (.agg [.gs 100004 0 ns.length])=.agg [.sl 1 ns []] by simp [clA,clL,lk]] at h2
 exact mut_match [] [] h2 Fb14_z1
theorem readers:∀ n,TestR W n/\QueryR W n
 | 0=>⟨fun v d t t' _ h=>by omega,fun v d t t' _ h=>by omega⟩
 | n+1=>⟨test111 W n (readers n).1 (readers n).2,query63 W n (readers n).1 (readers n).2⟩
theorem parse17 {n:Nat} {q:JV} {t:Int} (hk:chkQ n q 0 0=.ok t) (hsz:sizeV q<n) (hcn:cntV q<=2 ^ 30) (hnm:nmV q):Pure Tryz.prog W 17 [encV q] (.tup [filA n q t,iA 0]):=by
 have h1:=(readers W n).2 q 0 0 t hk hsz hcn hnm (Int.le_refl _) (Int.le_refl _) (by omega)
 have hcl:cloL [encV q,iA 0]=true:=by simp [cloL,encV_clo,iA,AV.clo]
 have h2:=mut_name (k1:=100000) (k2:=100003) (x:=iA 0) (y:=iA t) (rest:=[encV q,iA 0]) (by omega) rfl rfl rfl rfl hcl h1
 have hf:(iA 0).flat=(AV.agg [iA 0]).flat:=rfl
 have hc:=mut_flat1 hf h2
 obtain ⟨h,l⟩:=q
 exact pure_frz [(100005,.box (.agg [.sl 1 (qN n (.mk h l)) [],iA t]) .own)] (mut_of_sfunD mixedz call17 rfl (p17_0 W h l t (qN n (.mk h l))) Fb14_z3) (frz2 rfl rfl) rfl rfl
end
end Go.Ac

namespace Go.Ac
open Go
theorem blL_str:∀ p:List (List UInt8),p.length<=bl.blL (p.map AV.str)/\∀ s ∈ p,s.length<=bl.blL (p.map AV.str)
 | []=>⟨by simp,by simp⟩
 | s::p=>by
  obtain ⟨h1,h2⟩:=blL_str p
  simp only [List.map_cons,bl.blL,bl,List.length_cons,List.mem_cons]
  refine ⟨by omega,fun x hx=>?_⟩
  rcases hx with rfl|hx
  ·omega
  ·have:=h2 x hx;omega
mutual
theorem bl_val:∀ j:JV,cntV j<=bl (encV j)/\∀ B,bl (encV j)<=B->B<=2 ^ 30->nmV j
 | .mk h l=>by
  obtain ⟨a1,a2⟩:=bl_vals l
  obtain ⟨b1,b2⟩:=blL_str h.names
  have e:bl (encV (.mk h l))=h.text.length+1+(bl.blL (h.names.map AV.str)+1)+(bl.blL (encVs l)+1):=by
   simp only [encV,bl,bl.blL];omega
  rw [e]
  refine ⟨by simp only [cntV];omega,fun B h1 h2=>?_⟩
  simp only [nmV]
  exact ⟨fun s hs=>by have:=b2 s hs;omega,a2 B (by omega) h2⟩
theorem bl_vals:∀ l:List JV,cntVs l<=bl.blL (encVs l)/\∀ B,bl.blL (encVs l)<=B->B<=2 ^ 30->nmVs l
 | []=>⟨by simp [cntVs],fun _ _ _=>trivial⟩
 | j::l=>by
  obtain ⟨a1,a2⟩:=bl_val j
  obtain ⟨b1,b2⟩:=bl_vals l
  simp only [encVs,bl.blL,cntVs,nmVs]
  exact ⟨by omega,fun B h1 h2=>⟨a2 B (by omega) h2,b2 B (by omega) h2⟩⟩
end
end Go.Ac

namespace Go.Ac
open Go
section
variable {P:Program} {W:World} {f:FuncId}
theorem top_cells {β β':Nat->Plc} {D D' I I':Nat->Prop} {H H':Array Obj} {m m':Bool} {us:List Value} (h:RL β D I H m (AV.top).flat us):RL β' D' I' H' m' (AV.top).flat us:=by
 have h1:RL β D I H m [AV.top] us:=h
 cases h1 with
 | cons a b=>cases b;exact .cons (.top _ _) (.nil _)
theorem mut_nameP {k1 k2:Nat} {x r:AV} {rest:List AV} (hk2:100000<=k2) (hx:x.clo=true) (hxf:cloL x.flat=true) (hr:r.clo=true) (hrest:cloL rest=true)
 (h:MutC P W f (.gp k1 0::rest) [(k1,.box x .own)] (.pan r [(k1,.box .top .own)])):MutC P W f (.gp k2 0::rest) [(k2,.box x .own)] (.pan r [(k2,.box .top .own)]):=by
 intro β I w vs hw hlB hi hR
 have hlb:∀ b,lentB (fun _=>β k2) [(k1,.box x .own)] b->lentB β [(k2,.box x .own)] b:=by
  rintro b ⟨k,g,hk,hb,hs,he⟩
  obtain ⟨_,rfl⟩:=hg_one hk
  exact ⟨k2,_,hg_self,hb,hs,he⟩
 have hlb':∀ b,lentB β [(k2,.box x .own)] b->lentB (fun _=>β k2) [(k1,.box x .own)] b:=by
  rintro b ⟨k,g,hk,hb,hs,he⟩
  obtain ⟨rfl,rfl⟩:=hg_one hk
  exact ⟨k1,_,hg_self,hb,hs,he⟩
 have hi1:Inv (fun _=>β k2) I (hg [(k1,.box x .own)]) w.heap:=by
  refine ⟨fun k g hk=>?_,hi.imm,fun k k' g g' hne h1 h2=>?_⟩
  ·obtain ⟨_,rfl⟩:=hg_one hk
   obtain ⟨us,T,g1,g2,g3,g4,g5,g6⟩:=hi.ge k2 _ hg_self
   exact ⟨us,T,g1,g2,(g3.clo hxf).closed (fun b hb=>⟨hb,rfl⟩) rfl true,g4,g5,g6⟩
  ·obtain ⟨rfl,_⟩:=hg_one h1
   obtain ⟨rfl,_⟩:=hg_one h2
   exact absurd rfl hne
 have hR1:RL (fun _=>β k2) (dom (hg [(k1,.box x .own)])) I w.heap true (.gp k1 0::rest) vs:=by
  cases hR with
  | cons h1 h2 =>
   refine .cons ?_ ((h2.clo hrest).closed (fun b hb=>⟨hb,rfl⟩) rfl true)
   cases h1 with
   | gp hD=>exact .gp (β:=fun _=>β k2) (k:=k1) (c:=0) (show dom (hg [(k1,GE.box x .own)]) k1 by simp [dom,hg])
 refine (h _ I w vs hw (fun b hb=>hlB b (hlb b hb)) hi1 hR1).mono fun e w' ⟨β',I',v,q1,q2,q3,q4⟩=>?_
 obtain ⟨f1,f2,f3,f4,f5,f6,f7,f8,f9⟩:=q4
 have hp:=(f9 k1 (β k2) (by simp [lentE,hg])).2.2
 obtain ⟨us,T,g1,g2,g3,g4,g5,g6⟩:=q3.ge k1 _ hg_self
 rw [hp] at g1 g2 g5 g6
 refine ⟨β,I',v,q1,(q2.clo hr).closed (fun b hb=>⟨hb,rfl⟩) rfl true,⟨fun k g hk=>?_,q3.imm,fun k k' g g' hne h1 h2=>?_⟩,⟨f1,f2,f3,f4,(fun b hb hn=>f5 b hb fun hl=>hn (hlb b hl)),f6,(fun b hb hlt=>(f7 b hb hlt).imp id (hlb b)),(fun k g hk hbk hs=>?_),fun k p hk=>?_⟩⟩
 ·obtain ⟨rfl,rfl⟩:=hg_one hk
  exact ⟨us,T,g1,g2,top_cells g3,g4,g5,g6⟩
 ·obtain ⟨rfl,_⟩:=hg_one h1
  obtain ⟨rfl,_⟩:=hg_one h2
  exact absurd rfl hne
 ·obtain ⟨rfl,rfl⟩:=hg_one hk
  have:=f8 k1 _ hg_self trivial hs
  rw [hp] at this
  exact this.imp id (hlb _)
 ·have hk':(if (hg [(k2,GE.box x .own)] k).isSome=true then some (β k) else none)=some p:=hk
  split at hk'
  ·rename_i hs
   obtain ⟨g,hgk⟩:=Option.isSome_iff_exists.1 hs
   obtain ⟨rfl,_⟩:=hg_one hgk
   cases hk'
   exact ⟨hk2,by show (hg [(_,GE.box .top .own)] _).isSome=true;rw [hg_self];rfl,rfl⟩
  ·cases hk'
end
end Go.Ac

namespace Go.Ac
open Go Go.Proofs
set_option maxRecDepth 10000
set_option maxHeartbeats 1000000
def P0:AS:=⟨[],[(100000,.box .top .own)]⟩
theorem em208_0 (W:World) (h:JH) (l:List JV) (d t:Int) (c:Bool):sfun Tryz.prog W {lp:=true,tl:=[]} 1000 9 208 [.gp 100000 0,encV (.mk h l),iA d,.ip (bA c) 0] (rdH t) 100001 [Ans.ev 1,Ans.br true,Ans.ev 10000000] []=.ok (OutC.pan (AV.ifc 98 (AV.agg [iA 42])) [(100000,GE.box (iA t) St.own)],[Ans.ev 9999999],[(!decide (h.kind=5))=true]):=kr
theorem em180_0 (W:World) (h:JH) (l:List JV) (d t:Int):sfun Tryz.prog W {lp:=true,tl:=[]} 1000 9 180 [.gp 100000 0,encV (.mk h l),iA d] (rdH t) 100001 [Ans.ev 1,Ans.br true,Ans.ev 10000000] []=.ok (OutC.pan (AV.ifc 98 (AV.agg [iA 42])) [(100000,GE.box (iA t) St.own)],[Ans.ev 9999999],[(!decide (h.kind=5))=true]):=kr
theorem em181_1 (W:World) (h:JH) (l:List JV) (d t:Int):sfun Tryz.prog W {lp:=true,tl:=[]} 1000 9 181 [.gp 100000 0,encV (.mk h l),iA d] (rdH t) 100001 [Ans.br false,Ans.br false,Ans.br false,Ans.br false,Ans.ev 1,Ans.br true,Ans.ev 10000000] []=.ok (OutC.pan (AV.ifc 98 (AV.agg [iA 42])) [(100000,GE.box (iA t) St.own)],[Ans.ev 9999999],[(!decide (h.kind=1))=true,decide (h.kind=2)=false,decide (h.kind=2)=false,decide (h.kind=2)=false,decide (h.kind=2)=false]):=kr
theorem em183_0 (W:World) (h:JH) (l:List JV) (d t:Int):sfun Tryz.prog W {lp:=true,tl:=[]} 1000 9 183 [.gp 100000 0,encV (.mk h l),iA d] (rdH t) 100001 [Ans.br true,Ans.br true,Ans.br true,Ans.br true,Ans.ev 1,Ans.br true,Ans.ev 10000000] []=.ok (OutC.pan (AV.ifc 98 (AV.agg [iA 42])) [(100000,GE.box (iA t) St.own)],[Ans.ev 9999999],[(!decide (0<=h.int))=true,decide (h.kind=3)=true,decide (h.kind=3)=true,decide (h.kind=3)=true,decide (h.kind=3)=true]):=kr
theorem em183_2 (W:World) (h:JH) (l:List JV) (d t:Int):sfun Tryz.prog W {lp:=true,tl:=[]} 1000 9 183 [.gp 100000 0,encV (.mk h l),iA d] (rdH t) 100001 [Ans.br false,Ans.br false,Ans.br false,Ans.br false,Ans.ev 10000000] []=.ok (OutC.pan (AV.ifc 98 (AV.agg [iA 42])) [(100000,GE.box (iA t) St.own)],[Ans.ev 9999997],[decide (h.kind=3)=false,decide (h.kind=3)=false,decide (h.kind=3)=false,decide (h.kind=3)=false]):=kr
theorem em184_0 (W:World) (h:JH) (l:List JV) (d t:Int) (h3:JH) (l3:List JV) (h4:JH) (l4:List JV):sfun Tryz.prog W {lp:=true,tl:=[]} 1000 9 184 [.gp 100000 0,encV (.mk h l),iA d] (rdH t) 100001 [Ans.br true,Ans.br true,Ans.br true,Ans.br true,Ans.br true,Ans.br true,Ans.br true,Ans.br true,Ans.ev 1,Ans.opt (some (encV (JV.mk h3 l3))),Ans.br true,Ans.br true,Ans.br true,Ans.br true,Ans.br true,Ans.br true,Ans.br true,Ans.ev 1,Ans.opt (some (encV (JV.mk h4 l4))),Ans.br true,Ans.br true,Ans.br true,Ans.br true,Ans.br true,Ans.br true,Ans.br true,Ans.ev 1,Ans.opt (some (encV (JV.mk h3 l3))),Ans.br true,Ans.br true,Ans.br true,Ans.br true,Ans.ev 1,Ans.br true,Ans.ev 10000000] []=.ok (OutC.pan (AV.ifc 98 (AV.agg [iA 42])) [(100000,GE.box (iA t) St.own)],[Ans.ev 9999999],[(!!decide (h3.int=0))=true,decide (h4.kind=3)=true,decide (h4.kind=3)=true,decide (h4.kind=3)=true,decide (h4.kind=3)=true,(encVs l)[0]?=some (encV (JV.mk h3 l3)),decide (h4.kind=3)=true,decide (h4.kind=3)=true,decide (h4.kind=3)=true,decide (h3.kind=3)=true,decide (h3.kind=3)=true,decide (h3.kind=3)=true,decide (h3.kind=3)=true,(encVs l)[1]?=some (encV (JV.mk h4 l4)),decide (h3.kind=3)=true,decide (h3.kind=3)=true,decide (h3.kind=3)=true,decide ((↑(encVs l).length:Int)=2)=true,decide ((↑(encVs l).length:Int)=2)=true,decide ((↑(encVs l).length:Int)=2)=true,decide ((↑(encVs l).length:Int)=2)=true,(encVs l)[0]?=some (encV (JV.mk h3 l3)),decide ((↑(encVs l).length:Int)=2)=true,decide ((↑(encVs l).length:Int)=2)=true,decide ((↑(encVs l).length:Int)=2)=true,decide (h.kind=5)=true,decide (h.kind=5)=true,decide (h.kind=5)=true,decide (h.kind=5)=true,decide (h.kind=5)=true]):=kr
theorem em184_2 (W:World) (h:JH) (l:List JV) (d t:Int) (h3:JH) (l3:List JV) (h4:JH) (l4:List JV):sfun Tryz.prog W {lp:=true,tl:=[]} 1000 9 184 [.gp 100000 0,encV (.mk h l),iA d] (rdH t) 100001 [Ans.br true,Ans.br true,Ans.br true,Ans.br true,Ans.br true,Ans.br true,Ans.br true,Ans.br true,Ans.ev 1,Ans.opt (some (encV (JV.mk h3 l3))),Ans.br true,Ans.br true,Ans.br true,Ans.br true,Ans.br true,Ans.br true,Ans.br true,Ans.ev 1,Ans.opt (some (encV (JV.mk h4 l4))),Ans.br true,Ans.br true,Ans.br true,Ans.br true,Ans.br false,Ans.br false,Ans.br false,Ans.br false,Ans.br false,Ans.br false,Ans.br false,Ans.ev 10000000] []=.ok (OutC.pan (AV.ifc 98 (AV.agg [iA 42])) [(100000,GE.box (iA t) St.own)],[Ans.ev 9999997],[decide (h4.kind=3)=false,decide (h4.kind=3)=false,decide (h4.kind=3)=false,decide (h4.kind=3)=false,decide (h4.kind=3)=false,decide (h4.kind=3)=false,decide (h4.kind=3)=false,decide (h3.kind=3)=true,decide (h3.kind=3)=true,decide (h3.kind=3)=true,decide (h3.kind=3)=true,(encVs l)[1]?=some (encV (JV.mk h4 l4)),decide (h3.kind=3)=true,decide (h3.kind=3)=true,decide (h3.kind=3)=true,decide ((↑(encVs l).length:Int)=2)=true,decide ((↑(encVs l).length:Int)=2)=true,decide ((↑(encVs l).length:Int)=2)=true,decide ((↑(encVs l).length:Int)=2)=true,(encVs l)[0]?=some (encV (JV.mk h3 l3)),decide ((↑(encVs l).length:Int)=2)=true,decide ((↑(encVs l).length:Int)=2)=true,decide ((↑(encVs l).length:Int)=2)=true,decide (h.kind=5)=true,decide (h.kind=5)=true,decide (h.kind=5)=true,decide (h.kind=5)=true,decide (h.kind=5)=true]):=kr
theorem em184_3 (W:World) (h:JH) (l:List JV) (d t:Int) (h3:JH) (l3:List JV):sfun Tryz.prog W {lp:=true,tl:=[]} 1000 9 184 [.gp 100000 0,encV (.mk h l),iA d] (rdH t) 100001 [Ans.br true,Ans.br true,Ans.br true,Ans.br true,Ans.br true,Ans.br true,Ans.br true,Ans.br true,Ans.ev 1,Ans.opt (some (encV (JV.mk h3 l3))),Ans.br true,Ans.br true,Ans.br true,Ans.br true,Ans.br false,Ans.br false,Ans.br false,Ans.br false,Ans.br false,Ans.br false,Ans.br false,Ans.ev 10000000] []=.ok (OutC.pan (AV.ifc 98 (AV.agg [iA 42])) [(100000,GE.box (iA t) St.own)],[Ans.ev 9999990],[decide (h3.kind=3)=false,decide (h3.kind=3)=false,decide (h3.kind=3)=false,decide (h3.kind=3)=false,decide (h3.kind=3)=false,decide (h3.kind=3)=false,decide (h3.kind=3)=false,decide ((↑(encVs l).length:Int)=2)=true,decide ((↑(encVs l).length:Int)=2)=true,decide ((↑(encVs l).length:Int)=2)=true,decide ((↑(encVs l).length:Int)=2)=true,(encVs l)[0]?=some (encV (JV.mk h3 l3)),decide ((↑(encVs l).length:Int)=2)=true,decide ((↑(encVs l).length:Int)=2)=true,decide ((↑(encVs l).length:Int)=2)=true,decide (h.kind=5)=true,decide (h.kind=5)=true,decide (h.kind=5)=true,decide (h.kind=5)=true,decide (h.kind=5)=true]):=kr
theorem em184_4 (W:World) (h:JH) (l:List JV) (d t:Int):sfun Tryz.prog W {lp:=true,tl:=[]} 1000 9 184 [.gp 100000 0,encV (.mk h l),iA d] (rdH t) 100001 [Ans.br true,Ans.br true,Ans.br true,Ans.br true,Ans.br true,Ans.br false,Ans.br false,Ans.br false,Ans.br false,Ans.br false,Ans.br false,Ans.br false,Ans.ev 10000000] []=.ok (OutC.pan (AV.ifc 98 (AV.agg [iA 42])) [(100000,GE.box (iA t) St.own)],[Ans.ev 9999983],[decide ((↑(encVs l).length:Int)=2)=false,decide ((↑(encVs l).length:Int)=2)=false,decide ((↑(encVs l).length:Int)=2)=false,decide ((↑(encVs l).length:Int)=2)=false,decide ((↑(encVs l).length:Int)=2)=false,decide ((↑(encVs l).length:Int)=2)=false,decide ((↑(encVs l).length:Int)=2)=false,decide (h.kind=5)=true,decide (h.kind=5)=true,decide (h.kind=5)=true,decide (h.kind=5)=true,decide (h.kind=5)=true]):=kr
theorem em184_5 (W:World) (h:JH) (l:List JV) (d t:Int):sfun Tryz.prog W {lp:=true,tl:=[]} 1000 9 184 [.gp 100000 0,encV (.mk h l),iA d] (rdH t) 100001 [Ans.br false,Ans.br false,Ans.br false,Ans.br false,Ans.br false,Ans.ev 10000000] []=.ok (OutC.pan (AV.ifc 98 (AV.agg [iA 42])) [(100000,GE.box (iA t) St.own)],[Ans.ev 9999976],[decide (h.kind=5)=false,decide (h.kind=5)=false,decide (h.kind=5)=false,decide (h.kind=5)=false,decide (h.kind=5)=false]):=kr
theorem em182_2 (W:World) (h:JH) (l:List JV) (d t:Int) (b:Bool) (T:List AV):sfun Tryz.prog W {lp:=true,tl:=[215]} 1000 9 182 [.gp 100000 0,encV (.mk h l),iA d] (rdH t) 100001 [Ans.ev 10000000,Ans.call (OutC.ret (AV.tup [AV.sl 1 T [],bA b]) []),Ans.br false,Ans.br false,Ans.ev 10000000] []=.ok (OutC.pan (AV.ifc 98 (AV.agg [iA 42])) [(100000,GE.box (iA t) St.own)],[Ans.ev 9999997],[decide (h.kind=4)=false,decide (h.kind=4)=false,MutC Tryz.prog W 215 [AV.str h.3] [] (OutC.ret (AV.tup [AV.sl 1 T [],bA b]) [])]):=kr
theorem em182n_0 (W:World) (h:JH) (l:List JV) (d t:Int):sfun Tryz.prog W {lp:=true,tl:=[215]} 1000 9 182 [.gp 100000 0,encV (.mk h l),iA d] (rdH t) 100001 [Ans.ev 10000000,Ans.call (OutC.ret (AV.tup [AV.val (Value.slice none 0 0),bA false]) []),Ans.br true,Ans.br true,Ans.ev 10000000] []=.ok (OutC.pan (AV.ifc 98 (AV.agg [iA 42])) [(100000,GE.box (iA t) St.own)],[Ans.ev 9999997],[decide (h.kind=4)=true,decide (h.kind=4)=true,MutC Tryz.prog W 215 [AV.str h.3] [] (OutC.ret (AV.tup [AV.val (Value.slice none 0 0),bA false]) [])]):=kr
theorem em182n_1 (W:World) (h:JH) (l:List JV) (d t:Int):sfun Tryz.prog W {lp:=true,tl:=[215]} 1000 9 182 [.gp 100000 0,encV (.mk h l),iA d] (rdH t) 100001 [Ans.ev 10000000,Ans.call (OutC.ret (AV.tup [AV.val (Value.slice none 0 0),bA false]) []),Ans.br false,Ans.br false,Ans.ev 10000000] []=.ok (OutC.pan (AV.ifc 98 (AV.agg [iA 42])) [(100000,GE.box (iA t) St.own)],[Ans.ev 9999997],[decide (h.kind=4)=false,decide (h.kind=4)=false,MutC Tryz.prog W 215 [AV.str h.3] [] (OutC.ret (AV.tup [AV.val (Value.slice none 0 0),bA false]) [])]):=kr
theorem em185_0 (W:World) (h:JH) (l:List JV) (d t e:Int):sfun Tryz.prog W {lp:=true,tl:=[111]} 1000 9 185 [.gp 100000 0,encV (.mk h l),iA d] (rdH t) 100001 [Ans.ev 10000000,Ans.call (panO e),Ans.ev 10000000] []=.ok (OutC.pan (AV.ifc 98 (AV.agg [iA e])) [(100000,GE.box AV.top St.own)],[Ans.ev 10000000],[MutC Tryz.prog W 111 [AV.gp 100000 0,encV (JV.mk h l),iA (IntKind.i64.wrap (d+1))] [(100000,GE.box (iA t) St.own)] (OutC.pan (AV.ifc 98 (AV.agg [iA e])) [(100000,GE.box AV.top St.own)])]):=kr
theorem em186_0 (W:World) (h:JH) (l:List JV) (d t e:Int) (s:List UInt8) (c b:Bool):sfun Tryz.prog W {lp:=true,tl:=[110,107,111,63]} 1000 9 186 [.gp 100000 0,encV (.mk h l),iA d] (rdH t) 100001 [Ans.ev 10000000,Ans.call (OutC.ret (bA b) []),Ans.br true,Ans.br true,Ans.br true,Ans.ev 1,Ans.opt (some (AV.str s)),Ans.br true,Ans.br true,Ans.ev 10000000,Ans.call (OutC.ret (bA c) []),Ans.br true,Ans.br true,Ans.br true,Ans.ev 10000000,Ans.call (panO e),Ans.ev 10000000] []=.ok (OutC.pan (AV.ifc 98 (AV.agg [iA e])) [(100000,GE.box AV.top St.own)],[Ans.ev 10000000],[MutC Tryz.prog W 111 [AV.gp 100000 0,encV (JV.mk h l),iA (IntKind.i64.wrap (d+1))] [(100000,GE.box (iA t) St.own)] (OutC.pan (AV.ifc 98 (AV.agg [iA e])) [(100000,GE.box AV.top St.own)]),(!c)=true,b=true,b=true,MutC Tryz.prog W 107 [AV.str s] [] (OutC.ret (bA c) []),b=true,b=true,(List.map AV.str h.names)[0]?=some (AV.str s),b=true,b=true,b=true,MutC Tryz.prog W 110 [encV (JV.mk h l)] [] (OutC.ret (bA b) [])]):=kr
theorem em186_1 (W:World) (h:JH) (l:List JV) (d t e:Int) (s:List UInt8) (c b:Bool):sfun Tryz.prog W {lp:=true,tl:=[110,107,111,63]} 1000 9 186 [.gp 100000 0,encV (.mk h l),iA d] (rdH t) 100001 [Ans.ev 10000000,Ans.call (OutC.ret (bA b) []),Ans.br true,Ans.br true,Ans.br true,Ans.ev 1,Ans.opt (some (AV.str s)),Ans.br true,Ans.br true,Ans.ev 10000000,Ans.call (OutC.ret (bA c) []),Ans.br true,Ans.br true,Ans.br false,Ans.ev 10000000,Ans.call (panO e),Ans.ev 10000000] []=.ok (OutC.pan (AV.ifc 98 (AV.agg [iA e])) [(100000,GE.box AV.top St.own)],[Ans.ev 10000000],[MutC Tryz.prog W 63 [AV.gp 100000 0,encV (JV.mk h l),iA (IntKind.i64.wrap (d+1))] [(100000,GE.box (iA t) St.own)] (OutC.pan (AV.ifc 98 (AV.agg [iA e])) [(100000,GE.box AV.top St.own)]),(!c)=false,b=true,b=true,MutC Tryz.prog W 107 [AV.str s] [] (OutC.ret (bA c) []),b=true,b=true,(List.map AV.str h.names)[0]?=some (AV.str s),b=true,b=true,b=true,MutC Tryz.prog W 110 [encV (JV.mk h l)] [] (OutC.ret (bA b) [])]):=kr
theorem em186_2 (W:World) (h:JH) (l:List JV) (d t e:Int) (b:Bool):sfun Tryz.prog W {lp:=true,tl:=[110,107,111,63]} 1000 9 186 [.gp 100000 0,encV (.mk h l),iA d] (rdH t) 100001 [Ans.ev 10000000,Ans.call (OutC.ret (bA b) []),Ans.br false,Ans.br false,Ans.br false,Ans.br false,Ans.br false,Ans.br false,Ans.br false,Ans.ev 10000000,Ans.call (panO e),Ans.ev 10000000] []=.ok (OutC.pan (AV.ifc 98 (AV.agg [iA e])) [(100000,GE.box AV.top St.own)],[Ans.ev 10000000],[MutC Tryz.prog W 63 [AV.gp 100000 0,encV (JV.mk h l),iA (IntKind.i64.wrap (d+1))] [(100000,GE.box (iA t) St.own)] (OutC.pan (AV.ifc 98 (AV.agg [iA e])) [(100000,GE.box AV.top St.own)]),b=false,b=false,b=false,b=false,b=false,b=false,b=false,MutC Tryz.prog W 110 [encV (JV.mk h l)] [] (OutC.ret (bA b) [])]):=kr
theorem eT215_0 (W:World) (s:List UInt8):sfun Tryz.prog W {lp:=true,mq:=true} 1000 9 215 [.str s] [] 100000 [Ans.ev 7,Ans.opt none,Ans.ev 10000000] []=.ok (OutC.ret (AV.tup [AV.val (Value.slice none 0 0),bA false]) [],[Ans.ev 10000000],[lookT [(AV.str [110,117,108,108],AV.gs 100001 0 1),(AV.str [98,111,111,108],AV.gs 100002 0 2),(AV.str [105,110,116],AV.gs 100003 0 1),(AV.str [115,116,114,105,110,103],AV.gs 100004 0 1),(AV.str [97,114,114,97,121],AV.gs 100005 0 1),(AV.str [111,98,106,101,99,116],AV.gs 100006 0 1)] s=none]):=kr
theorem Fe1_m1 {kp f ph σ σ'} (h:MatchK kp f ph σ σ':=by exact ⟨by rfl,(by simp only [P0,rdH,panO,tOK,List.map_cons,List.map_nil,and_true]<;>exact zt),(by simp only [P0,rdH,panO,hOK,List.map_cons,List.map_nil,and_true]<;>exact zh),(by simp only [P0,rdH,panO,liveT,List.map_cons,List.map_nil,and_true]<;>exact zv),(by simp only [P0,rdH,panO,liveH,List.map_cons,List.map_nil,and_true]<;>exact zv)⟩):MatchK kp f ph σ σ':=h
theorem Fe1_m4 {cs} (h:Holds cs:=by simp only [Holds,and_true]<;>and_intros<;>first|exact zd|(exact hk;done)|(exact hb5;done)|exact Fe1_m1):Holds cs:=h
theorem typeN_not (W:World) {s:List UInt8} (h:¬ 0<=typeN s):Pure Tryz.prog W 215 [.str s] (.tup [.val (.slice none 0 0),bA false]):=by
 have hk:lookT [(AV.str [110,117,108,108],AV.gs 100001 0 1),(AV.str [98,111,111,108],AV.gs 100002 0 2),(AV.str [105,110,116],AV.gs 100003 0 1),(AV.str [115,116,114,105,110,103],AV.gs 100004 0 1),(AV.str [97,114,114,97,121],AV.gs 100005 0 1),(AV.str [111,98,106,101,99,116],AV.gs 100006 0 1)] s=none:=by
  unfold typeN at h
  split at h
  ·exact absurd (by decide) h
  rename_i n1
  split at h
  ·exact absurd (by decide) h
  rename_i n2
  split at h
  ·exact absurd (by decide) h
  rename_i n3
  split at h
  ·exact absurd (by decide) h
  rename_i n4
  split at h
  ·exact absurd (by decide) h
  rename_i n5
  split at h
  ·exact absurd (by decide) h
  rename_i n6
  simp only [lookT]
  rw [if_neg n1,if_neg n2,if_neg n3,if_neg n4,if_neg n5,if_neg n6]
 exact pure_of_mut rfl (mut_of_sfun mixedz call215 rfl (eT215_0 W s) Fe1_m4)
section
variable (W:World) (x:JV) (d t:Int)
abbrev MkE (f:FuncId) (ex:List AV) (e:Int):Prop:=MutC Tryz.prog W f ([.gp 100000 0,encV x,iA d]++ex) (rdH t) (panO e)
theorem mkE_208 (w:Bool) (hk:¬ x.kind=5):MkE W x d t 208 [.ip (bA w) 0] 42:=by
 obtain ⟨h,l⟩:=x
 have k5:¬ h.kind=5:=hk
 have hb1:(!decide (h.kind=5))=true:=by rw [decide_eq_false k5];rfl
 exact mut_matchP [] [] (mut_of_sfun mixedz call208 rfl (em208_0 W h l d t w) Fe1_m4) Fe1_m1
theorem mkE_180 (hk:¬ x.kind=5):MkE W x d t 180 [] 42:=by
 obtain ⟨h,l⟩:=x
 have k5:¬ h.kind=5:=hk
 have hb1:(!decide (h.kind=5))=true:=by rw [decide_eq_false k5];rfl
 exact mut_matchP [] [] (mut_of_sfun mixedz call180 rfl (em180_0 W h l d t) Fe1_m4) Fe1_m1
theorem mkE_181 (hk:¬ (x.kind=1\/x.kind=2)):MkE W x d t 181 [] 42:=by
 obtain ⟨h,l⟩:=x
 have k1:¬ h.kind=1:=fun q=>hk (.inl q)
 have k2:¬ h.kind=2:=fun q=>hk (.inr q)
 have hb1:(!decide (h.kind=1))=true:=by rw [decide_eq_false k1];rfl
 have hb2:decide (h.kind=2)=false:=decide_eq_false k2
 exact mut_matchP [] [] (mut_of_sfun mixedz call181 rfl (em181_1 W h l d t) Fe1_m4) Fe1_m1
theorem mkE_183 (hk:¬ (x.kind=3/\0<=x.int)):MkE W x d t 183 [] 42:=by
 obtain ⟨h,l⟩:=x
 by_cases k:h.kind=3
 ·have k0:¬ 0<=h.int:=fun q=>hk ⟨k,q⟩
  have hb1:decide (h.kind=3)=true:=decide_eq_true k
  have hb2:(!decide (0<=h.int))=true:=by rw [decide_eq_false k0];rfl
  exact mut_matchP [] [] (mut_of_sfun mixedz call183 rfl (em183_0 W h l d t) Fe1_m4) Fe1_m1
 ·have hb1:decide (h.kind=3)=false:=decide_eq_false k
  exact mut_matchP [] [] (mut_of_sfun mixedz call183 rfl (em183_2 W h l d t) Fe1_m4) Fe1_m1
theorem mkE_184 (hk:(decide (x.kind=5) && (match x.items with|[a,b]=>decide (a.kind=3) && decide (b.kind=3) && !decide (a.int=0)|_=>false))=false):MkE W x d t 184 [] 42:=by
 obtain ⟨h,l⟩:=x
 by_cases k:h.kind=5
 ·have hb1:decide (h.kind=5)=true:=decide_eq_true k
  by_cases hl:l.length=2
  ·obtain ⟨a,b,e⟩:∃ a b,l=[a,b]:=by
    match l,hl with
    | [a,b],_=>exact ⟨a,b,rfl⟩
   subst e
   obtain ⟨h3,l3⟩:=a
   obtain ⟨h4,l4⟩:=b
   have hk2:(decide (h.kind=5) && (decide (h3.kind=3) && decide (h4.kind=3) && !decide (h3.int=0)))=false:=hk
   have hb2:decide (((encVs [JV.mk h3 l3,JV.mk h4 l4]).length:Int)=2)=true:=by rw [encVs_len];rfl
   have hget:(encVs [JV.mk h3 l3,JV.mk h4 l4])[0]?=some (encV (.mk h3 l3)):=encVs_get (by rfl)
   have hget2:(encVs [JV.mk h3 l3,JV.mk h4 l4])[1]?=some (encV (.mk h4 l4)):=encVs_get (by rfl)
   by_cases e3:h3.kind=3
   ·have hb3:decide (h3.kind=3)=true:=decide_eq_true e3
    by_cases e4:h4.kind=3
    ·have hb4:decide (h4.kind=3)=true:=decide_eq_true e4
     rw [hb1,hb3,hb4] at hk2
     have e0:h3.int=0:=by simpa using hk2
     have hb5:(!!decide (h3.int=0))=true:=by rw [decide_eq_true e0];rfl
     exact mut_matchP [] [] (mut_of_sfun mixedz call184 rfl (em184_0 W h [JV.mk h3 l3,JV.mk h4 l4] d t h3 l3 h4 l4) Fe1_m4) Fe1_m1
    ·have hb4:decide (h4.kind=3)=false:=decide_eq_false e4
     exact mut_matchP [] [] (mut_of_sfun mixedz call184 rfl (em184_2 W h [JV.mk h3 l3,JV.mk h4 l4] d t h3 l3 h4 l4) Fe1_m4) Fe1_m1
   ·have hb3:decide (h3.kind=3)=false:=decide_eq_false e3
    exact mut_matchP [] [] (mut_of_sfun mixedz call184 rfl (em184_3 W h [JV.mk h3 l3,JV.mk h4 l4] d t h3 l3) Fe1_m4) Fe1_m1
  ·have hb2:decide (((encVs l).length:Int)=2)=false:=decide_eq_false (by rw [encVs_len];omega)
   exact mut_matchP [] [] (mut_of_sfun mixedz call184 rfl (em184_4 W h l d t) Fe1_m4) Fe1_m1
 ·have hb1:decide (h.kind=5)=false:=decide_eq_false k
  exact mut_matchP [] [] (mut_of_sfun mixedz call184 rfl (em184_5 W h l d t) Fe1_m4) Fe1_m1
theorem mkE_182 (hk:¬ (x.kind=4/\0<=typeN x.text)):MkE W x d t 182 [] 42:=by
 by_cases ht:0<=typeN x.text
 ·have k4:¬ x.kind=4:=fun q=>hk ⟨q,ht⟩
  have hc:=mut_of_pure (by rfl) (types215 W ht)
  obtain ⟨h,l⟩:=x
  have hb1:decide (h.kind=4)=false:=decide_eq_false k4
  exact mut_matchP [] [] (mut_of_sfun mixedz call182 rfl (em182_2 W h l d t true (kindsA h.text)) Fe1_m4) Fe1_m1
 ·have hc:=mut_of_pure (by rfl) (typeN_not W ht)
  obtain ⟨h,l⟩:=x
  by_cases k:h.kind=4
  ·have hb1:decide (h.kind=4)=true:=decide_eq_true k
   exact mut_matchP [] [] (mut_of_sfun mixedz call182 rfl (em182n_0 W h l d t) Fe1_m4) Fe1_m1
  ·have hb1:decide (h.kind=4)=false:=decide_eq_false k
   exact mut_matchP [] [] (mut_of_sfun mixedz call182 rfl (em182n_1 W h l d t) Fe1_m4) Fe1_m1
theorem mkE_185 (hd:0<=d/\d<=2 ^ 30) (e:Int) (hT:MutC Tryz.prog W 111 [.gp 100000 0,encV x,iA (d+1)] (rdH t) (panO e)):MkE W x d t 185 [] e:=by
 have hwd:IntKind.i64.wrap (d+1)=d+1:=IntWalk.i64_in _ (by omega)
 have hc:MutC Tryz.prog W 111 [.gp 100000 0,encV x,iA (IntKind.i64.wrap (d+1))] (rdH t) (panO e):=by rw [hwd];exact hT
 obtain ⟨h,l⟩:=x
 exact mut_matchP [] [] (mut_of_sfun mixedz call185 rfl (em185_0 W h l d t e) Fe1_m4) Fe1_m1
theorem mkE_186 (hd:0<=d/\d<=2 ^ 30) (e:Int) (hT:(isTestB x && !joinsB (firstS x))=true->MutC Tryz.prog W 111 [.gp 100000 0,encV x,iA (d+1)] (rdH t) (panO e))
 (hQ:(isTestB x && !joinsB (firstS x))=false->MutC Tryz.prog W 63 [.gp 100000 0,encV x,iA (d+1)] (rdH t) (panO e)):MkE W x d t 186 [] e:=by
 have hwd:IntKind.i64.wrap (d+1)=d+1:=IntWalk.i64_in _ (by omega)
 have hc1:=mut_of_pure (by simp only [cloL,encV_clo,Bool.and_self]) (isTest110 W x)
 have hc2:=mut_of_pure (by rfl) (logical107 W (firstS x))
 cases e1:isTestB x with
 | true =>
  rw [e1] at hc1 hT hQ
  rw [Bool.true_and] at hT hQ
  cases e2:joinsB (firstS x) with
  | false =>
   have hc3:MutC Tryz.prog W 111 [.gp 100000 0,encV x,iA (IntKind.i64.wrap (d+1))] (rdH t) (panO e):=by rw [hwd];exact hT (by rw [e2];rfl)
   rw [e2] at hc2
   obtain ⟨h,l⟩:=x
   have hget:(List.map AV.str h.names)[0]?=some (AV.str (firstS (.mk h l))):=strs_get (test_mk h l e1).2.1
   exact mut_matchP [] [] (mut_of_sfun mixedz call186 rfl (em186_0 W h l d t e (firstS (.mk h l)) false true) Fe1_m4) Fe1_m1
  | true =>
   have hc3:MutC Tryz.prog W 63 [.gp 100000 0,encV x,iA (IntKind.i64.wrap (d+1))] (rdH t) (panO e):=by rw [hwd];exact hQ (by rw [e2];rfl)
   rw [e2] at hc2
   obtain ⟨h,l⟩:=x
   have hget:(List.map AV.str h.names)[0]?=some (AV.str (firstS (.mk h l))):=strs_get (test_mk h l e1).2.1
   exact mut_matchP [] [] (mut_of_sfun mixedz call186 rfl (em186_1 W h l d t e (firstS (.mk h l)) true true) Fe1_m4) Fe1_m1
 | false =>
  have hc3:MutC Tryz.prog W 63 [.gp 100000 0,encV x,iA (IntKind.i64.wrap (d+1))] (rdH t) (panO e):=by rw [hwd];exact hQ (by rw [e1];rfl)
  rw [e1] at hc1
  obtain ⟨h,l⟩:=x
  exact mut_matchP [] [] (mut_of_sfun mixedz call186 rfl (em186_2 W h l d t e false) Fe1_m4) Fe1_m1
end
end Go.Ac

