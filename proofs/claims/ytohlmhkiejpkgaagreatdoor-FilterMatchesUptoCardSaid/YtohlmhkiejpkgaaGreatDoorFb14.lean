/- What is proved: contracts of functions of this translation, walked; their plain meaning. No condition beyond those that each theorem names. -/
import Derived.Test.YtohlmhkiejpkgaaGreatDoorMa6
import Derived.Test.YtohlmhkiejpkgaaGreatDoorFb13
set_option linter.all false
namespace Go.Ac
open Go Go.Proofs
set_option maxRecDepth 10000
set_option maxHeartbeats 1000000
theorem Fb14_z1 {kp f ph σ σ'} (h:MatchK kp f ph σ σ':=by exact ⟨by rfl,(by simp only [S111,H111,E111,S63,E63,S108,E108,rdH,tOK,List.map_cons,List.map_nil,and_true]<;>exact zt),(by simp only [S111,H111,E111,S63,E63,S108,E108,rdH,hOK,List.map_cons,List.map_nil,and_true]<;>exact zh),(by simp only [S111,H111,E111,S63,E63,S108,E108,rdH,liveT,List.map_cons,List.map_nil,and_true]<;>exact zv),(by simp only [S111,H111,E111,S63,E63,S108,E108,rdH,liveH,List.map_cons,List.map_nil,and_true]<;>exact zv)⟩):MatchK kp f ph σ σ':=h
theorem Fb14_z3 {cs} (h:Holds cs:=by simp only [Holds,and_true]<;>and_intros<;>first|exact zd):Holds cs:=h
theorem Fb14_z4 {cs} (h:Holds cs:=by simp only [Holds,and_true]<;>and_intros<;>first|exact zd|exact Fb14_z1):Holds cs:=h
def S63 (h:JH) (l:List JV) (d t:Int) (ns:List AV) (m:Int) (i:Nat):AS:=⟨[(0,.gp 100000 0),(2,iA d),(4,.gp 100001 0),(6,.gp 100002 0),(7,.gp 100003 0),(27,iA m),(28,iA i)],[(100000,.box (iA t) .own),(100001,.box (encV (.mk h l)) .own),(100002,.box (.agg [.val (.slice none 0 0)]) .own),(100003,.box (.agg [.gs 100004 0 ns.length]) .own),(100004,.arr 146 1 ns .own)]⟩
def E63 (t:Int) (ns:List AV):AS:=⟨[(6,.gp 100002 0),(7,.gp 100003 0)],[(100000,.box (iA t) .own),(100002,.box (.agg [.val (.slice none 0 0)]) .own),(100003,.box (.agg [.gs 100004 0 ns.length]) .own),(100004,.arr 146 1 ns .own)]⟩
def S108 (l:List JV) (d t:Int) (s:List UInt8) (ns:List AV) (i:Nat):AS:=⟨[(0,.gp 100000 0),(3,iA d),(9,.gp 100002 0),(25,.sl 5 (encVs l) []),(26,iA l.length),(27,iA i)],[(100000,.box (iA t) .own),(100002,.box (.agg [.str s,.gs 100003 0 ns.length]) .own),(100003,.arr 146 1 ns .own)]⟩
def E108 (t:Int) (s:List UInt8) (ns:List AV):AS:=⟨[(9,.gp 100002 0)],[(100000,.box (iA t) .own),(100002,.box (.agg [.str s,.gs 100003 0 ns.length]) .own),(100003,.arr 146 1 ns .own)]⟩
theorem g63_0 (W:World) (h:JH) (l:List JV) (d t t2 m:Int) (ns:List AV) (i:Nat) (s:List UInt8) (h2:JH) (l2:List JV) (Q:List AV):sQ W {lp:=true,tl:=[107,108]} 63 0 [100000] [0,2,4,6,7,27,28] (S63 h l d t ns m i) [bt,aE 1,oS (.str s),aE 1,oS (eV h2 l2),ee,cR (bA true) [],ee,cR (groupA s Q) (rdH t2),aE 1,.lg,.lg,ee]=.ok ((.normal,{t:=[(0,.gp 100000 0),(2,iA d),(4,.gp 100001 0),(6,.gp 100002 0),(7,.gp 100003 0),(27,iA m),(28,iA (IntKind.i64.wrap ((i:Int)+1)))],h:=[(100000,gB (iA t2)),(100001,gB (eV h l)),(100002,gB (.agg [.val (Value.slice none 0 0)])),(100003,gB (.gs 100007 0 (ns.length+[AV.ifc 155 (.agg [.str s,sL 1 Q])].length))),(100004,.dead),(100005,gB (eV h2 l2)),(100006,.arr 146 1 [.ifc 155 (.agg [.str s,sL 1 Q])] .own),(100007,.arr 146 1 (List.take ns.length ns++[AV.ifc 155 (.agg [.str s,sL 1 Q])]) .own)]}),[ee],[(ns.length+[AV.ifc 155 (.agg [.str s,sL 1 Q])].length) * 16<=140737488355328,(St.own=St.own\/St.own=St.shr/\ns.length=ns.length)/\ns.length<=ns.length,MZ W 108 [.gp 100000 0,.str s,eV h2 l2,iA d] [(100000,gB (iA t))] (.ret (.ifc 155 (.agg [.str s,sL 1 Q])) [(100000,gB (iA t2))]),MZ W 107 [.str s] [] (.ret (bA true) []),(encVs l)[(i:Int).toNat]?=some (eV h2 l2),(List.map AV.str h.names)[(i:Int).toNat]?=some (AV.str s),decide ((i:Int)<m)=true]):=kr
theorem t63_0 (W:World) (h:JH) (l:List JV) (d t t2 m a:Int) (ns:List AV) (i:Nat) (s:List UInt8) (h2:JH) (l2:List JV) (P T:List AV):sQ W {lp:=true,tl:=[107,109,76,110,111]} 63 0 [100000] [0,2,4,6,7,27,28] (S63 h l d t ns m i) [bt,aE 1,oS (.str s),aE 1,oS (eV h2 l2),ee,cR (bA false) [],ee,cR (bA false) [],ee,cR (.tup [sL 1 P,iA 0,iA a]) [],ee,cR (bA true) [],ee,cR (sL 7 T) (rdH t2),aE 1,.lg,.lg,ee]=.ok ((.normal,{t:=[(0,.gp 100000 0),(2,iA d),(4,.gp 100001 0),(6,.gp 100002 0),(7,.gp 100003 0),(27,iA m),(28,iA (IntKind.i64.wrap ((i:Int)+1)))],h:=[(100000,gB (iA t2)),(100001,gB (eV h l)),(100002,gB (.agg [.val (Value.slice none 0 0)])),(100003,gB (.gs 100007 0 (ns.length+[AV.ifc 152 (.agg [.str s,sL 1 P,sL 7 T])].length))),(100004,.dead),(100005,gB (eV h2 l2)),(100006,.arr 146 1 [.ifc 152 (.agg [.str s,sL 1 P,sL 7 T])] .own),(100007,.arr 146 1 (List.take ns.length ns++[AV.ifc 152 (.agg [.str s,sL 1 P,sL 7 T])]) .own)]}),[ee],[(ns.length+[AV.ifc 152 (.agg [.str s,sL 1 P,sL 7 T])].length) * 16<=140737488355328,(St.own=St.own\/St.own=St.shr/\ns.length=ns.length)/\ns.length<=ns.length,MZ W 111 [.gp 100000 0,eV h2 l2,iA d] [(100000,gB (iA t))] (.ret (sL 7 T) [(100000,gB (iA t2))]),MZ W 110 [eV h2 l2] [] (.ret (bA true) []),MZ W 76 [.str s] [] (.ret (.tup [sL 1 P,iA 0,iA a]) []),MZ W 109 [.str s] [] (.ret (bA false) []),MZ W 107 [.str s] [] (.ret (bA false) []),(encVs l)[(i:Int).toNat]?=some (eV h2 l2),(List.map AV.str h.names)[(i:Int).toNat]?=some (AV.str s),decide ((i:Int)<m)=true]):=kr
theorem n63_0 (W:World) (h:JH) (l:List JV) (d t t2 m a:Int) (ns:List AV) (i:Nat) (s:List UInt8) (h2:JH) (l2:List JV) (P T:List AV):sQ W {lp:=true,tl:=[107,109,76,110,111]} 63 0 [100000] [0,2,4,6,7,27,28] (S63 h l d t ns m i) [bt,aE 1,oS (.str s),aE 1,oS (eV h2 l2),ee,cR (bA false) [],ee,cR (bA false) [],ee,cR (.tup [sL 1 P,iA 0,iA a]) [],ee,cR (bA false) [],ee,cR (sL 7 T) [(100000,gB (iA t2)),(100006,.arr 9 1 [.str [36,101,113]] .own),(100007,.arr 25 5 [eV h2 l2] .own)],aE 1,.lg,.lg,ee]=.ok ((.normal,{t:=[(0,.gp 100000 0),(2,iA d),(4,.gp 100001 0),(6,.gp 100002 0),(7,.gp 100003 0),(27,iA m),(28,iA (IntKind.i64.wrap ((i:Int)+1)))],h:=[(100000,gB (iA t2)),(100001,gB (eV h l)),(100002,gB (.agg [.val (Value.slice none 0 0)])),(100003,gB (.gs 100009 0 (ns.length+[AV.ifc 152 (.agg [.str s,sL 1 P,sL 7 T])].length))),(100004,.dead),(100005,gB (.agg [iA 6,iA 0,.str [],.gs 100006 0 1,.gs 100007 0 1])),(100006,.arr 9 1 [.str [36,101,113]] .own),(100007,.arr 25 5 [eV h2 l2] .own),(100008,.arr 146 1 [.ifc 152 (.agg [.str s,sL 1 P,sL 7 T])] .own),(100009,.arr 146 1 (List.take ns.length ns++[AV.ifc 152 (.agg [.str s,sL 1 P,sL 7 T])]) .own)]}),[ee],[(ns.length+[AV.ifc 152 (.agg [.str s,sL 1 P,sL 7 T])].length) * 16<=140737488355328,(St.own=St.own\/St.own=St.shr/\ns.length=ns.length)/\ns.length<=ns.length,MZ W 111 [.gp 100000 0,.agg [iA 6,iA 0,.str [],.gs 100006 0 1,.gs 100007 0 1],iA d] [(100000,gB (iA t)),(100006,.arr 9 1 [.str [36,101,113]] .own),(100007,.arr 25 5 [eV h2 l2] .own)] (.ret (sL 7 T) [(100000,gB (iA t2)),(100006,.arr 9 1 [.str [36,101,113]] .own),(100007,.arr 25 5 [eV h2 l2] .own)]),MZ W 110 [eV h2 l2] [] (.ret (bA false) []),MZ W 76 [.str s] [] (.ret (.tup [sL 1 P,iA 0,iA a]) []),MZ W 109 [.str s] [] (.ret (bA false) []),MZ W 107 [.str s] [] (.ret (bA false) []),(encVs l)[(i:Int).toNat]?=some (eV h2 l2),(List.map AV.str h.names)[(i:Int).toNat]?=some (AV.str s),decide ((i:Int)<m)=true]):=kr
theorem e111_0 (W:World) (d t t2:Int) (h2:JH) (l2:List JV):sF W {lp:=true,tl:=[169]} 111 [.gp 100000 0,.agg [iA 6,iA 0,.str [],.gs 100006 0 1,.gs 100007 0 1],iA d] [(100000,.box (iA t) .own),(100006,.arr 9 1 [.str [36,101,113]] .own),(100007,.arr 25 5 [eV h2 l2] .own)] 100008 [aE 11,bf,ee,.un,aE 3,bf,ee,cR (.fn (Fn.func 170) [] [(eV h2 l2).ip 0]) (rdH t2),ee,.un,ee] []=.ok (.ret (.gs 100018 0 1) [(100000,gB (iA t2)),(100006,.arr 9 1 [.str [36,101,113]] .own),(100007,.arr 25 5 [eV h2 l2] .own),(100018,.arr 158 7 [.agg [.str [36,101,113],iA h2.kind,iA h2.int,.str h2.3,sL 1 (List.map AV.str h2.names),sL 5 (encVs l2),.fn (Fn.func 170) [] [(eV h2 l2).ip 0]]] .own)],[aE 9999999],[MZ W 169 [.gp 100000 0,eV h2 l2,iA d] [(100000,gB (iA (IntKind.i64.wrap (t+1))))] (.ret (.fn (Fn.func 170) [] [(eV h2 l2).ip 0]) [(100000,gB (iA t2))]),decide (t=64)=false,decide (16<d)=false]):=kr
theorem x63_0 (W:World) (h:JH) (l:List JV) (d t m:Int) (ns:List AV) (i:Nat):sQ W {lp:=true} 63 0 [100000] [0,2,4,6,7,27,28] (S63 h l d t ns m i) [bf,ee]=.ok ((.exit 0,{t:=[(0,.gp 100000 0),(2,iA d),(4,.gp 100001 0),(6,.gp 100002 0),(7,.gp 100003 0),(27,iA m),(28,iA (i:Int))],h:=[(100000,gB (iA t)),(100001,gB (eV h l)),(100002,gB (.agg [.val (Value.slice none 0 0)])),(100003,gB (.agg [.gs 100004 0 ns.length])),(100004,.arr 146 1 ns .own)]}),[ee],[decide ((i:Int)<m)=false]):=kr
theorem p63_0 (W:World) (h:JH) (l:List JV) (d t t2 m:Int) (ns:List AV):sF W {lp:=true,fin:=9} 63 [.gp 100000 0,eV h l,iA d] (rdH t) 100001 [bf,bf,ee,.loopM [] [(100004,1)] (S63 h l d t [] m 0) (.exit 0) (E63 t2 ns),ee,.fin [] [] (.agg [.gs 100004 0 ns.length]) [(100000,gB (iA t2)),(100004,.arr 146 1 ns .own)],ee] []=.ok (.ret (.agg [.gs 100004 0 ns.length]) [(100000,gB (iA t2)),(100004,.arr 146 1 ns .own)],[ee],[MatchK [100000] [] [] {t:=[(0,.agg [.gs 100004 0 ns.length])],h:=[(100000,gB (iA t2)),(100002,gB (.agg [.gs 100004 0 ns.length])),(100003,gB (.agg [.gs 100004 0 ns.length])),(100004,.arr 146 1 ns .own)]} {t:=[(0,.agg [.gs 100004 0 ns.length])],h:=[(100000,gB (iA t2)),(100004,.arr 146 1 ns .own)]},LZ W [100000] 63 0 (S63 h l d t [] m 0) (.exit 0) (E63 t2 ns),MatchK [100000] [] [(100004,1)] {t:=[(0,.gp 100000 0),(2,iA d),(4,.gp 100001 0),(6,.gp 100002 0),(7,.gp 100003 0),(27,iA (if (↑(encVs l).length:Int)<(↑(List.map AV.str h.names).length:Int) then (↑(encVs l).length:Int) else (↑(List.map AV.str h.names).length:Int))),(28,iA 0)],h:=[(100000,gB (iA t)),(100001,gB (eV h l)),(100002,gB (.agg [.val (Value.slice none 0 0)])),(100003,gB (.agg [.val (Value.slice none 0 0)]))]} {t:=[(0,.gp 100000 0),(2,iA d),(4,.gp 100001 0),(6,.gp 100002 0),(7,.gp 100003 0),(27,iA m),(28,iA 0)],h:=[(100000,gB (iA t)),(100001,gB (eV h l)),(100002,gB (.agg [.val (Value.slice none 0 0)])),(100003,gB (.agg [.gs 100004 0 0])),(100004,.arr 146 1 [] .own)]},decide (16<d)=false,(!decide (h.kind=6))=false]):=kr
theorem b108_0 (W:World) (h:JH) (l:List JV) (d t t2:Int) (ns:List AV) (i:Nat) (s:List UInt8) (h2:JH) (l2:List JV) (N:List AV):sQ W {lp:=true,tl:=[63]} 108 0 [100000] [0,3,9,25,26,27] (S108 l d t s ns i) [bt,aE 1,oS (eV h2 l2),ee,cR (.agg [sL 1 N]) (rdH t2),aE 1,.lg,.lg,ee]=.ok ((.normal,{t:=[(0,.gp 100000 0),(3,iA d),(9,.gp 100002 0),(25,sL 5 (encVs l)),(26,iA (l.length:Int)),(27,iA (IntKind.i64.wrap ((i:Int)+1)))],h:=[(100000,gB (iA t2)),(100002,gB (.agg [.str s,.gs 100006 0 (ns.length+[AV.ifc 105 (.agg [sL 1 N])].length)])),(100003,.dead),(100004,gB (eV h2 l2)),(100005,.arr 146 1 [.ifc 105 (.agg [sL 1 N])] .own),(100006,.arr 146 1 (List.take ns.length ns++[AV.ifc 105 (.agg [sL 1 N])]) .own)]}),[ee],[(ns.length+[AV.ifc 105 (.agg [sL 1 N])].length) * 16<=140737488355328,(St.own=St.own\/St.own=St.shr/\ns.length=ns.length)/\ns.length<=ns.length,MZ W 63 [.gp 100000 0,eV h2 l2,iA (IntKind.i64.wrap (d+1))] [(100000,gB (iA t))] (.ret (.agg [sL 1 N]) [(100000,gB (iA t2))]),(encVs l)[(i:Int).toNat]?=some (eV h2 l2),decide ((i:Int)<(l.length:Int))=true]):=kr
theorem b108_1 (W:World) (h:JH) (l:List JV) (d t:Int) (ns:List AV) (i:Nat) (s:List UInt8):sQ W {lp:=true,tl:=[63]} 108 0 [100000] [0,3,9,25,26,27] (S108 l d t s ns i) [bf,ee]=.ok ((.exit 0,{t:=[(0,.gp 100000 0),(3,iA d),(9,.gp 100002 0),(25,sL 5 (encVs l)),(26,iA (l.length:Int)),(27,iA (i:Int))],h:=[(100000,gB (iA t)),(100002,gB (.agg [.str s,.gs 100003 0 ns.length])),(100003,.arr 146 1 ns .own)]}),[ee],[decide ((i:Int)<(l.length:Int))=false]):=kr
theorem p108_0 (W:World) (h:JH) (l:List JV) (d t t2:Int) (ns:List AV) (s:List UInt8):sF W {lp:=true,fin:=9} 108 [.gp 100000 0,.str s,eV h l,iA d] (rdH t) 100001 [bf,bf,bf,bf,bf,bf,ee,.loopM [] [(100003,1)] (S108 l d t s [] 0) (.exit 0) (E108 t2 s ns),ee,.fin [] [] (.ifc 155 (.agg [.str s,.gs 100003 0 ns.length])) [(100000,gB (iA t2)),(100003,.arr 146 1 ns .own)],ee] []=.ok (.ret (.ifc 155 (.agg [.str s,.gs 100003 0 ns.length])) [(100000,gB (iA t2)),(100003,.arr 146 1 ns .own)],[ee],MatchK [100000] [] [] {t:=[(0,.ifc 155 (.agg [.str s,.gs 100003 0 ns.length]))],h:=[(100000,gB (iA t2)),(100002,gB (.agg [.str s,.gs 100003 0 ns.length])),(100003,.arr 146 1 ns .own)]} {t:=[(0,.ifc 155 (.agg [.str s,.gs 100003 0 ns.length]))],h:=[(100000,gB (iA t2)),(100003,.arr 146 1 ns .own)]}::LZ W [100000] 108 0 (S108 l d t s [] 0) (.exit 0) (E108 t2 s ns)::MatchK [100000] [] [(100003,1)] {t:=[(0,.gp 100000 0),(3,iA d),(9,.gp 100002 0),(25,sL 5 (encVs l)),(26,iA (↑(encVs l).length:Int)),(27,iA 0)],h:=[(100000,gB (iA t)),(100001,gB (eV h l)),(100002,gB (.agg [.str s,.val (Value.slice none 0 0)]))]} {t:=[(0,.gp 100000 0),(3,iA d),(9,.gp 100002 0),(25,sL 5 (encVs l)),(26,iA (l.length:Int)),(27,iA 0)],h:=[(100000,gB (iA t)),(100002,gB (.agg [.str s,.gs 100003 0 0])),(100003,.arr 146 1 [] .own)]}::(decide ((↑(encVs l).length:Int)=0)=false)::((!decide (h.kind=5))=false)::(d4 ((!decide (h.kind=5))=false) [])):=kr
theorem p17_0 (W:World) (h:JH) (l:List JV) (t:Int) (N:List AV):sfunD Tryz.prog W {lp:=true,tl:=[63]} 1000 9 17 [eV h l] [] 100000 [ee,cR (.agg [sL 1 N]) [(100003,gB (iA t))],ee] []=.ok (.ret (.tup [.gp 100005 0,iA 0]) [(100005,gB (.agg [sL 1 N,iA t]))],[ee],[MZ W 63 [.gp 100003 0,eV h l,iA 0] [(100003,gB (.agg [iA 0]))] (.ret (.agg [sL 1 N]) [(100003,gB (iA t))])]):=kr
theorem call63:callable Tryz.prog 63=true:=kr
theorem call108:callable Tryz.prog 108=true:=kr
theorem call17:callable Tryz.prog 17=true:=kr
mutual
def nmV:JV->Prop
 | .mk h l=>(∀ s ∈ h.names,s.length<=2 ^ 30)/\nmVs l
def nmVs:List JV->Prop
 | []=>True
 | j::l=>nmV j/\nmVs l
end
theorem nmVs_mem:∀ {l:List JV},nmVs l->∀ x ∈ l,nmV x
 | [],_,x,hx=>by cases hx
 | j::l,h,x,hx=>by
  rcases List.mem_cons.1 hx with rfl|hx
  ·exact h.1
  ·exact nmVs_mem h.2 x hx
theorem nmV_mem {v:JV} (h:nmV v) {x:JV} (hx:x ∈ v.items):nmV x:=by
 obtain ⟨hh,l⟩:=v;exact nmVs_mem h.2 x hx
theorem nmV_name {v:JV} (h:nmV v) {s:List UInt8} (hs:s ∈ v.names):s.length<=2 ^ 30:=by
 obtain ⟨hh,l⟩:=v;exact h.1 s hs
theorem foldX_le {α:Type} {f:α->Int->Except Int Int}:∀ {l:List α},(∀ a ∈ l,∀ u u',f a u=.ok u'->u<=u'/\(u<=64->u'<=64))->∀ {t t':Int},foldX f l t=.ok t'->t<=t'/\(t<=64->t'<=64)
 | [],_,t,t',h=>by simp only [foldX] at h;cases h;exact ⟨Int.le_refl _,id⟩
 | a::l,hf,t,t',h=>by
  simp only [foldX] at h
  split at h
  ·rename_i t1 h1
   have q1:=hf a (by simp) _ _ h1
   have q2:=foldX_le (fun b hb=>hf b (by simp [hb])) h
   exact ⟨by omega,fun q=>q2.2 (q1.2 q)⟩
  ·cases h
theorem chk_le:∀ n,(∀ v d t t',chkT n v d t=.ok t'->t<=t'/\(t<=64->t'<=64))/\(∀ v d t t',chkQ n v d t=.ok t'->t<=t'/\(t<=64->t'<=64))
 | 0=>⟨fun v d t t' h=>by rw [chkT] at h;cases h;exact ⟨Int.le_refl _,id⟩,fun v d t t' h=>by rw [chkQ] at h;cases h;exact ⟨Int.le_refl _,id⟩⟩
 | n+1=>by
  obtain ⟨iT,iQ⟩:=chk_le n
  refine ⟨fun v d t t' h=>?_,fun v d t t' h=>?_⟩
  ·rw [chkT] at h
   split at h
   ·cases h
   split at h
   ·cases h
   refine foldX_le (fun p hp u u' hu=>?_) h
   split at hu
   ·cases hu
   split at hu
   ·cases hu
   split at hu
   ·cases hu
   split at hu
   ·have:=iT _ _ _ _ hu;exact ⟨by omega,fun q=>this.2 (by omega)⟩
   split at hu
   ·split at hu
    ·have:=iT _ _ _ _ hu;exact ⟨by omega,fun q=>this.2 (by omega)⟩
    ·have:=iQ _ _ _ _ hu;exact ⟨by omega,fun q=>this.2 (by omega)⟩
   ·cases hu;exact ⟨by omega,fun q=>by omega⟩
  ·rw [chkQ] at h
   split at h
   ·cases h
   split at h
   ·cases h
   refine foldX_le (fun p hp u u' hu=>?_) h
   split at hu
   ·split at hu
    ·cases hu
    ·exact foldX_le (fun y hy u u' hu=>iQ _ _ _ _ hu) hu
   split at hu
   ·cases hu
   split at hu
   ·cases hu
   split at hu
   ·exact iT _ _ _ _ hu
   split at hu
   ·cases hu
   ·cases hu;exact ⟨by omega,fun q=>by omega⟩
theorem asks_clo (T N:List AV) (nm:List UInt8) (x:JV):(asksA T N nm x).clo=true:=by
 have key:∀ (c:Prop) [Decidable c] (a b:AV),a.clo=true->b.clo=true->(if c then a else b).clo=true:=by
  intro c _ a b ha hb
  by_cases q:c
  ·rw [if_pos q];exact ha
  ·rw [if_neg q];exact hb
 unfold asksA
 repeat' (first|refine key _ _ _ ?_ ?_|rfl)
theorem terms_clo {F:List UInt8×JV->AV} (hF:∀ p,(F p).clo=true):∀ ps,cloL (termsA F ps)=true
 | []=>rfl
 | p::ps=>by
  have:=terms_clo hF ps
  simp only [termsA,List.map_cons,cloL] at this ⊢
  rw [this,term_clo p.1 p.2 (hF p)];rfl
theorem terms_snoc {F:List UInt8×JV->AV} {ps:List (List UInt8×JV)} {i:Nat} {p:List UInt8×JV} (hp:ps[i]?=some p):termsA F (ps.take (i+1))=termsA F (ps.take i)++[termA p.1 p.2 (F p)]:=by
 unfold termsA;rw [take_snoc hp,List.map_append];rfl
def TestR (W:World) (n:Nat):Prop:=∀ (v:JV) (d t t':Int),chkT n v d t=.ok t'->sizeV v<n->cntV v<=2 ^ 30->nmV v->0<=d->0<=t->t<=64->MutC Tryz.prog W 111 [.gp 100000 0,encV v,iA d] (rdH t) (.ret (.sl 7 (tT n v) []) (rdH t'))
def QueryR (W:World) (n:Nat):Prop:=∀ (v:JV) (d t t':Int),chkQ n v d t=.ok t'->sizeV v<n->cntV v<=2 ^ 30->nmV v->0<=d->0<=t->t<=64->MutC Tryz.prog W 63 [.gp 100000 0,encV v,iA d] (rdH t) (.ret (.agg [.sl 1 (qN n v) []]) (rdH t'))
theorem take_snocA (ts:List AV) (a:AV):List.take ts.length ts++[a]=ts++[a]:=by rw [List.take_length]
section
variable (W:World) (h:JH) (l:List JV)
theorem round111 (n:Nat) (hT:TestR W n) (hQ:QueryR W n) (d t t1:Int) (ts:List AV) (m:Int) (i:Nat) (p:List UInt8×JV) (hp:(JV.mk h l).mems[i]?=some p) (hi:(i:Int)<m) (hm:m<=2 ^ 40) (hn:ts.length<=2 ^ 30) (hts:cloL ts=true) (hd:0<=d/\d<=16) (ht0:0<=t) (ht64:t<=64)
 (hs:sizeV p.2<n) (hcn:cntV p.2<=2 ^ 30) (hnm:nmV p.2)
 (hu:(if 64<=t then Except.error 43 else if (!isOp p.1)=true then .error 41 else if (!takesB p.1 p.2)=true then .error 42 else if p.1=sNot then chkT n p.2 (d+1) (t+1) else if p.1=sElem then (if (isTestB p.2 && !joinsB (firstS p.2))=true then chkT n p.2 (d+1) (t+1) else chkQ n p.2 (d+1) (t+1)) else .ok (t+1))=(.ok t1:Except Int Int)) :
 BodyC Tryz.prog W [100000] (nslots Tryz.prog 111) (loopOf Tryz.prog 111 0) (S111 h l d t ts m i) .normal (S111 h l d t1 (ts++[termA p.1 p.2 (asksA (tT n p.2) (qN n p.2) p.1 p.2)]) m (i+1:Nat)):=by
 obtain ⟨nm,x⟩:=p
 have hz:=(List.getElem?_zip_eq_some (l₁:=h.names) (l₂:=l) (i:=i)).1 hp
 obtain ⟨hx,hv⟩:=hz
 simp only at hu hs hcn hnm hx hv ⊢
 split at hu
 ·cases hu
 rename_i h64
 have ht:0<=t/\t<64:=⟨ht0,by omega⟩
 split at hu
 ·cases hu
 rename_i hop
 split at hu
 ·cases hu
 rename_i htk
 have htk:takesB nm x=true:=by simpa using htk
 rcases op_cases (by simpa using hop:isOp nm=true) with rfl|rfl|rfl|rfl|rfl|rfl|rfl|rfl|rfl|rfl|rfl|rfl|rfl|rfl|rfl
 ·rw [if_neg (by decide),if_neg (by decide)] at hu
  cases hu
  exact st_sEq W h l d t (t+1) m ts i [] .top x hi hm hn ht hts hx hv (mk_169 W x d (t+1))
 ·rw [if_neg (by decide),if_neg (by decide)] at hu
  cases hu
  exact st_sNe W h l d t (t+1) m ts i [] .top x hi hm hn ht hts hx hv (mk_172 W x d (t+1))
 ·rw [if_neg (by decide),if_neg (by decide)] at hu
  cases hu
  exact st_sGt W h l d t (t+1) m ts i [] .top x hi hm hn ht hts hx hv (mk_204 W x d (t+1) _)
 ·rw [if_neg (by decide),if_neg (by decide)] at hu
  cases hu
  exact st_sGte W h l d t (t+1) m ts i [] .top x hi hm hn ht hts hx hv (mk_204 W x d (t+1) _)
 ·rw [if_neg (by decide),if_neg (by decide)] at hu
  cases hu
  exact st_sLt W h l d t (t+1) m ts i [] .top x hi hm hn ht hts hx hv (mk_204 W x d (t+1) _)
 ·rw [if_neg (by decide),if_neg (by decide)] at hu
  cases hu
  exact st_sLte W h l d t (t+1) m ts i [] .top x hi hm hn ht hts hx hv (mk_204 W x d (t+1) _)
 ·rw [if_neg (by decide),if_neg (by decide)] at hu
  cases hu
  exact st_sIn W h l d t (t+1) m ts i [] .top x hi hm hn ht hts hx hv (mk_208 W x d (t+1) true (of_decide_eq_true (show decide (x.kind=5)=true from htk)))
 ·rw [if_neg (by decide),if_neg (by decide)] at hu
  cases hu
  exact st_sNin W h l d t (t+1) m ts i [] .top x hi hm hn ht hts hx hv (mk_208 W x d (t+1) false (of_decide_eq_true (show decide (x.kind=5)=true from htk)))
 ·rw [if_neg (by decide),if_neg (by decide)] at hu
  cases hu
  exact st_sAll W h l d t (t+1) m ts i [] .top x hi hm hn ht hts hx hv (mk_180 W x d (t+1) (of_decide_eq_true (show decide (x.kind=5)=true from htk)))
 ·rw [if_neg (by decide),if_neg (by decide)] at hu
  cases hu
  exact st_sExists W h l d t (t+1) m ts i [] .top x hi hm hn ht hts hx hv (mk_181 W x d (t+1) (of_decide_eq_true (show decide (x.kind=1\/x.kind=2)=true from htk)))
 ·rw [if_neg (by decide),if_neg (by decide)] at hu
  cases hu
  have hk:(decide (x.kind=4) && decide (0<=typeN x.text))=true:=htk
  simp only [Bool.and_eq_true,decide_eq_true_eq] at hk
  exact st_sType W h l d t (t+1) m ts i (kindsA x.text) .top x hi hm hn ht hts hx hv (mk_182 W x d (t+1) hk.1 hk.2)
 ·rw [if_neg (by decide),if_neg (by decide)] at hu
  cases hu
  have hk:(decide (x.kind=3) && decide (0<=x.int))=true:=htk
  simp only [Bool.and_eq_true,decide_eq_true_eq] at hk
  exact st_sSize W h l d t (t+1) m ts i [] .top x hi hm hn ht hts hx hv (mk_183 W x d (t+1) hk.1 hk.2)
 ·rw [if_neg (by decide),if_neg (by decide)] at hu
  cases hu
  have hk:(decide (x.kind=5) && (match x.items with|[a,b]=>decide (a.kind=3) && decide (b.kind=3) && !decide (a.int=0)|_=>false))=true:=htk
  simp only [Bool.and_eq_true,decide_eq_true_eq] at hk
  obtain ⟨k5,h2⟩:=hk
  split at h2
  ·rename_i a b e
   simp only [Bool.and_eq_true,Bool.not_eq_true',decide_eq_false_iff_not,decide_eq_true_eq] at h2
   exact st_sMod W h l d t (t+1) m ts i [] .top x hi hm hn ht hts hx hv (mk_184 W x d (t+1) a b k5 e h2.1.1 h2.1.2 h2.2)
  ·cases h2
 ·rw [if_pos rfl] at hu
  exact st_sNot W h l d t t1 m ts i (tT n x) .top x hi hm hn ht hts hx hv (mk_185 W x d (t+1) (by omega) _ _ (hT x (d+1) (t+1) t1 hu hs hcn hnm (by omega) (by omega) (by omega)))
 ·rw [if_neg (by decide),if_pos rfl] at hu
  exact st_sElem W h l d t t1 m ts i [] (if (isTestB x && !joinsB (firstS x))=true then .fn (.func 225) [] [.ip (.sl 7 (tT n x) []) 0] else .fn (.func 226) [] [.ip (.agg [.sl 1 (qN n x) []]) 0]) x hi hm hn ht hts hx hv (mk_186 W x d (t+1) (by omega) _ _ _ (fun e=>hT x (d+1) (t+1) t1 (by rw [if_pos e] at hu;exact hu) hs hcn hnm (by omega) (by omega) (by omega)) (fun e=>hQ x (d+1) (t+1) t1 (by rw [if_neg (by rw [e];decide)] at hu;exact hu) hs hcn hnm (by omega) (by omega) (by omega)))
theorem test111 (n:Nat) (hT:TestR W n) (hQ:QueryR W n):TestR W (n+1):=by
 intro v d t t' hk hsz hcn hnm hd0 ht0 ht64
 obtain ⟨h,l⟩:=v
 rw [chkT] at hk
 split at hk
 ·cases hk
 rename_i hne
 split at hk
 ·cases hk
 rename_i hd16
 have hln:=mems_ln (.mk h l)
 have hme:=mem_min h l
 have hml:=JV.mems_len (.mk h l)
 have k6:h.kind=6:=by
  by_cases q:h.kind=6
  ·exact q
  ·exact absurd (.inl q) hne
 have hmne:(JV.mk h l).mems ≠ []:=fun e=>hne (.inr e)
 have hm0:0<(JV.mk h l).mem:=by rw [<-hml];exact List.length_pos_iff.2 hmne
 have m1:=JV.mem_names (.mk h l)
 have m2:=JV.mem_items (.mk h l)
 simp only [JV.names,JV.items,JV.hd] at m1 m2
 have hlp:LoopC Tryz.prog W [100000] (nslots Tryz.prog 111) (loopOf Tryz.prog 111 0) (S111 h l d t [] ((JV.mk h l).mem:Nat) 0) (.exit 0) (E111 t' (termsA (fun p=>asksA (tT n p.2) (qN n p.2) p.1 p.2) (JV.mk h l).mems)):=by
  refine loopC_inv (fun q:Nat×Int=>S111 h l d q.2 (termsA (fun p=>asksA (tT n p.2) (qN n p.2) p.1 p.2) ((JV.mk h l).mems.take q.1)) ((JV.mk h l).mem:Nat) q.1)
   (fun q=>q.1<=(JV.mk h l).mems.length/\foldX _ ((JV.mk h l).mems.drop q.1) q.2=.ok t'/\0<=q.2/\q.2<=64) (fun q=>(JV.mk h l).mems.length - q.1) (by simp) ?_ (0,t) ⟨by simp,hk,ht0,ht64⟩
  rintro ⟨i,u⟩ ⟨a1,a2,a3,a4⟩
  simp only at a1 a2 a3 a4
  by_cases hi:i<(JV.mk h l).mems.length
  ·left
   obtain ⟨p,hp⟩:=getOf hi
   rw [drop_get hp,foldX] at a2
   split at a2
   ·rename_i u1 hu
    have hpm:=mems_mem (List.mem_of_getElem? hp)
    have hpi:=mem_item hpm.2
    have hle:u<=u1/\(u<=64->u1<=64):=by
     have hu':=hu
     split at hu'
     ·cases hu'
     split at hu'
     ·cases hu'
     split at hu'
     ·cases hu'
     split at hu'
     ·have:=(chk_le n).1 _ _ _ _ hu';exact ⟨by omega,fun q=>this.2 (by omega)⟩
     split at hu'
     ·split at hu'
      ·have:=(chk_le n).1 _ _ _ _ hu';exact ⟨by omega,fun q=>this.2 (by omega)⟩
      ·have:=(chk_le n).2 _ _ _ _ hu';exact ⟨by omega,fun q=>this.2 (by omega)⟩
     ·cases hu';exact ⟨by omega,fun q=>by omega⟩
    refine ⟨(i+1,u1),⟨by simp only;omega,a2,by simp only;omega,hle.2 a4⟩,by simp only;omega,?_⟩
    simp only
    rw [terms_snoc hp]
    exact round111 W h l n hT hQ d u u1 _ _ i p hp (by omega) (by omega) (by simp only [termsA,List.length_map,List.length_take];omega) (terms_clo (fun p=>asks_clo _ _ _ _) _) ⟨hd0,by omega⟩ a3 a4 (by omega) (by omega) (nmV_mem hnm hpm.2) hu
   ·cases a2
  ·right
   have hil:i=(JV.mk h l).mems.length:=by omega
   subst hil
   rw [List.drop_length] at a2
   simp only [foldX] at a2
   cases a2
   simp only
   rw [List.take_length]
   have hb1:decide (((JV.mk h l).mems.length:Int)<(((JV.mk h l).mem:Nat):Int))=false:=decide_eq_false (by omega)
   have hcl:=terms_clo (F:=fun p=>asksA (tT n p.2) (qN n p.2) p.1 p.2) (fun p=>asks_clo _ _ _ _) (JV.mk h l).mems
   exact body_of_sbodyK mixedz (x111_0 W h l d t' _ _ _) Fb14_z3 [] [] Fb14_z1
 rw [tT]
 have hcl:=terms_clo (F:=fun p=>asksA (tT n p.2) (qN n p.2) p.1 p.2) (fun p=>asks_clo _ _ _ _) (JV.mk h l).mems
 generalize termsA (fun p=>asksA (tT n p.2) (qN n p.2) p.1 p.2) (JV.mk h l).mems=ts at hlp hcl
 have hc:=ops148 W
 have hb1:(!decide (h.kind=6))=false:=by rw [decide_eq_true k6];rfl
 have hb2:decide (((List.map AV.str h.names).length:Int)=0)=false:=decide_eq_false (by rw [List.length_map];omega)
 have hb3:decide (((encVs l).length:Int)=0)=false:=decide_eq_false (by rw [encVs_len];omega)
 have hM:=mut_of_sfun mixedz call111 rfl (p111_1 W h l d t t' ((JV.mk h l).mem:Nat) ts) Fb14_z4
 have h2:=mut_frz [(100003,.arr 158 7 ts .own)] hM (frz2 rfl hcl)
 rw [show clA [(100003,.arr 158 7 ts .own)] (.gs 100003 0 ts.length)=.sl 7 ts [] by simp [clA,lk]] at h2
 exact mut_match [] [] h2 Fb14_z1
theorem wrap111 (x:JV) (d t:Int) (hd:0<=d/\d<=16) (ht:0<=t/\t<64):MutC Tryz.prog W 111 [.gp 100000 0,.agg [iA 6,iA 0,.str [],.gs 100006 0 1,.gs 100007 0 1],iA d] [(100000,.box (iA t) .own),(100006,.arr 9 1 [.str [36,101,113]] .own),(100007,.arr 25 5 [encV x] .own)]
 (.ret (.sl 7 (termsA (fun p=>asksA [] [] p.1 p.2) [(sEq,x)]) []) [(100000,.box (iA (t+1)) .own),(100006,.arr 9 1 [.str [36,101,113]] .own),(100007,.arr 25 5 [encV x] .own)]):=by
 have hwt:IntKind.i64.wrap (t+1)=t+1:=IntWalk.i64_in _ (by omega)
 have hc:=mk_169 W x d (t+1)
 unfold MkC at hc
 rw [<-hwt] at hc
 obtain ⟨h2,l2⟩:=x
 have hb1:decide (t=64)=false:=decide_eq_false (by omega)
 have hM:=mut_of_sfun mixedz call111 rfl (e111_0 W d t (IntKind.i64.wrap (t+1)) h2 l2) Fb14_z3
 have h3:=mut_frz [(100018,.arr 158 7 (termsA (fun p=>asksA [] [] p.1 p.2) [(sEq,.mk h2 l2)]) .own)] hM (frz2 rfl (terms_clo (fun p=>asks_clo _ _ _ _) _))
 rw [hwt] at h3
 exact mut_match [] [] (r:=.sl 7 (termsA (fun p=>asksA [] [] p.1 p.2) [(sEq,.mk h2 l2)]) []) h3 Fb14_z1
def nodeA (n:Nat) (p:List UInt8×JV):AV:=if joinsB p.1 then groupA p.1 (nodesQ (qN n) p.2.items) else clauseA p.1 ((parseP p.1).map AV.str) (if isTestB p.2 then tT n p.2 else termsA (fun p=>asksA [] [] p.1 p.2) [(sEq,p.2)])
theorem node_clo (n:Nat) (p:List UInt8×JV):(nodeA n p).clo=true:=by unfold nodeA;split<;>rfl
theorem nodes_clo (n:Nat):∀ ps:List (List UInt8×JV),cloL (ps.map (nodeA n))=true
 | []=>rfl
 | p::ps=>by simp only [List.map_cons,cloL,node_clo,nodes_clo n ps,Bool.and_self]
theorem nodesQ_clo (G:JV->List AV):∀ ys:List JV,cloL (nodesQ G ys)=true
 | []=>rfl
 | y::ys=>by have:=nodesQ_clo G ys;simp only [nodesQ,List.map_cons,cloL] at this ⊢;rw [this];rfl
theorem group108 (n:Nat) (hQ:QueryR W n) (s:List UInt8) (x:JV) (d t t':Int) (hk:foldX (fun y u=>chkQ n y (d+1) u) x.items t=.ok t') (h5:x.kind=5) (hne:x.items ≠ []) (hsz:sizeV x<=n) (hcn:cntV x<=2 ^ 30) (hnm:nmV x) (hd:0<=d/\d<=16) (ht0:0<=t) (ht64:t<=64) :
 MutC Tryz.prog W 108 [.gp 100000 0,.str s,encV x,iA d] (rdH t) (.ret (groupA s (nodesQ (qN n) x.items)) (rdH t')):=by
 obtain ⟨h,l⟩:=x
 have hcl0:=cntV_len (.mk h l)
 simp only [JV.items,JV.names,JV.hd] at hk hne hcl0
 have k5:h.kind=5:=h5
 have hwd:IntKind.i64.wrap (d+1)=d+1:=IntWalk.i64_in _ (by omega)
 have hlp:LoopC Tryz.prog W [100000] (nslots Tryz.prog 108) (loopOf Tryz.prog 108 0) (S108 l d t s [] 0) (.exit 0) (E108 t' s (nodesQ (qN n) l)):=by
  refine loopC_inv (fun q:Nat×Int=>S108 l d q.2 s (nodesQ (qN n) (l.take q.1)) q.1) (fun q=>q.1<=l.length/\foldX (fun y u=>chkQ n y (d+1) u) (l.drop q.1) q.2=.ok t'/\0<=q.2/\q.2<=64) (fun q=>l.length - q.1) (by simp) ?_ (0,t) ⟨by simp,hk,ht0,ht64⟩
  rintro ⟨i,u⟩ ⟨a1,a2,a3,a4⟩
  simp only at a1 a2 a3 a4
  have hws:IntKind.i64.wrap ((i:Int)+1)=((i+1:Nat):Int):=wrap_succ (by omega)
  by_cases hi:i<l.length
  ·left
   obtain ⟨y,hy⟩:=getOf hi
   rw [drop_get hy,foldX] at a2
   split at a2
   ·rename_i u1 hu
    have hle:=(chk_le n).2 _ _ _ _ hu
    have hyi:=mem_item (v:=.mk h l) (List.mem_of_getElem? hy)
    refine ⟨(i+1,u1),⟨by simp only;omega,a2,by simp only;omega,hle.2 a4⟩,by simp only;omega,?_⟩
    have hc:MutC Tryz.prog W 63 [.gp 100000 0,encV y,iA (IntKind.i64.wrap (d+1))] (rdH u) (.ret (.agg [.sl 1 (qN n y) []]) (rdH u1)):=by
     rw [hwd];exact hQ y (d+1) u u1 hu (by omega) (by omega) (nmV_mem (v:=.mk h l) hnm (List.mem_of_getElem? hy)) (by omega) a3 a4
    have hget:(encVs l)[((i:Int)).toNat]?=some (encV y):=by rw [Int.toNat_natCast];exact encVs_get hy
    have hsn:nodesQ (qN n) (l.take (i+1))=nodesQ (qN n) (l.take i)++[.ifc 105 (.agg [.sl 1 (qN n y) []])]:=by unfold nodesQ;rw [take_snoc hy,List.map_append];rfl
    have hlen:(nodesQ (qN n) (l.take i)).length<=2 ^ 30:=by simp only [nodesQ,List.length_map,List.length_take];omega
    have hcl:=nodesQ_clo (qN n) (l.take (i+1))
    simp only
    rw [hsn] at hcl ⊢
    generalize nodesQ (qN n) (l.take i)=ns at hlen hcl
    obtain ⟨h2,l2⟩:=y
    exact body_of_sbodyK mixedz (b108_0 W h l d u u1 ns i s h2 l2 (qN n (.mk h2 l2))) Fb14_z3 [(100003,100006)] [] Fb14_z1
   ·cases a2
  ·right
   have hil:i=l.length:=by omega
   subst hil
   rw [List.drop_length] at a2
   simp only [foldX] at a2
   cases a2
   simp only
   rw [List.take_length]
   have hcl:=nodesQ_clo (qN n) l
   exact body_of_sbodyK mixedz (b108_1 W h l d t' _ _ s) Fb14_z3 [] [] Fb14_z1
 have hcl:=nodesQ_clo (qN n) l
 simp only [JV.items]
 generalize nodesQ (qN n) l=ns at hlp hcl
 have hb1:(!decide (h.kind=5))=false:=by rw [decide_eq_true k5];rfl
 have hb2:decide (((encVs l).length:Int)=0)=false:=decide_eq_false (by rw [encVs_len];have:=List.length_pos_iff.2 hne;omega)
 have hM:=mut_of_sfun mixedz call108 rfl (p108_0 W h l d t t' ns s) Fb14_z4
 have h2:=mut_frz [(100003,.arr 146 1 ns .own)] hM (frz2 rfl hcl)
 rw [show clA [(100003,.arr 146 1 ns .own)] (.ifc 155 (.agg [.str s,.gs 100003 0 ns.length]))=groupA s ns by simp [clA,clL,lk,groupA]] at h2
 exact mut_match [] [] h2 Fb14_z1
theorem round63 (n:Nat) (hT:TestR W n) (hQ:QueryR W n) (d t t1:Int) (ns:List AV) (m:Int) (i:Nat) (p:List UInt8×JV) (hp:(JV.mk h l).mems[i]?=some p) (hi:(i:Int)<m) (hm:m<=2 ^ 40) (hn:ns.length<=2 ^ 30) (hcl:cloL (ns++[nodeA n p])=true) (hd:0<=d/\d<=16) (ht0:0<=t) (ht64:t<=64)
 (hs:sizeV p.2<n) (hcn:cntV p.2<=2 ^ 30) (hnm:nmV p.2) (hns:p.1.length<=2 ^ 30)
 (hu:(if joinsB p.1=true then (if p.2.kind ≠ 5\/p.2.items=[] then .error 42 else foldX (fun y t=>chkQ n y (d+1) t) p.2.items t) else if dollarB p.1=true then .error 41 else if parseE p.1 ≠ 0 then .error 20 else if isTestB p.2=true then chkT n p.2 d t else if 64<=t then .error 43 else .ok (t+1))=(.ok t1:Except Int Int)) :
 BodyC Tryz.prog W [100000] (nslots Tryz.prog 63) (loopOf Tryz.prog 63 0) (S63 h l d t ns m i) .normal (S63 h l d t1 (ns++[nodeA n p]) m (i+1:Nat)):=by
 obtain ⟨s,x⟩:=p
 have hz:=(List.getElem?_zip_eq_some (l₁:=h.names) (l₂:=l) (i:=i)).1 hp
 obtain ⟨hx,hv⟩:=hz
 simp only at hu hs hcn hnm hx hv hns hcl ⊢
 have hws:IntKind.i64.wrap ((i:Int)+1)=((i+1:Nat):Int):=wrap_succ (by omega)
 have hget:(List.map AV.str h.names)[((i:Int)).toNat]?=some (AV.str s):=by rw [Int.toNat_natCast];exact strs_get hx
 have hget2:(encVs l)[((i:Int)).toNat]?=some (encV x):=by rw [Int.toNat_natCast];exact encVs_get hv
 have hc1:=mut_of_pure (by rfl) (logical107 W s)
 unfold nodeA at hcl ⊢
 simp only at hcl ⊢
 by_cases hj:joinsB s=true
 ·rw [if_pos hj] at hu hcl ⊢
  rw [hj] at hc1
  split at hu
  ·cases hu
  rename_i hno
  have h5:x.kind=5:=Classical.byContradiction fun q=>hno (.inl q)
  have hc2:=group108 W n hQ s x d t t1 hu h5 (fun q=>hno (.inr q)) (by omega) hcn hnm hd ht0 ht64
  obtain ⟨h2,l2⟩:=x
  exact body_of_sbodyKW 100003 mixedz (g63_0 W h l d t t1 m ns i s h2 l2 (nodesQ (qN n) l2)) Fb14_z3 [(100004,100007)] [] Fb14_z1
 have hj':joinsB s=false:=by simpa using hj
 rw [if_neg hj] at hu hcl ⊢
 rw [hj'] at hc1
 split at hu
 ·cases hu
 rename_i hdl
 split at hu
 ·cases hu
 rename_i hpe
 have hpe:parseE s=0:=Classical.byContradiction hpe
 have hc2:=mut_of_pure (by rfl) (dollar109 W s)
 rw [show dollarB s=false by simpa using hdl] at hc2
 have hc3:=mut_of_pure (by rfl) (Parse76 W s hns)
 unfold parseAV at hc3
 rw [hpe] at hc3
 have hc4:=mut_of_pure (by simp only [cloL,encV_clo,Bool.and_self]) (isTest110 W x)
 by_cases ht:isTestB x=true
 ·rw [if_pos ht] at hu hcl ⊢
  rw [ht] at hc4
  have hc5:=hT x d t t1 hu hs hcn hnm hd.1 ht0 ht64
  obtain ⟨h2,l2⟩:=x
  exact body_of_sbodyKW 100003 mixedz (t63_0 W h l d t t1 m (parseA s) ns i s h2 l2 ((parseP s).map AV.str) (tT n (.mk h2 l2))) Fb14_z3 [(100004,100007)] [] Fb14_z1
 ·rw [if_neg ht] at hu hcl ⊢
  rw [show isTestB x=false by simpa using ht] at hc4
  split at hu
  ·cases hu
  cases hu
  have hc5:=wrap111 W x d t hd ⟨ht0,by omega⟩
  obtain ⟨h2,l2⟩:=x
  exact body_of_sbodyKW 100003 mixedz (n63_0 W h l d t (t+1) m (parseA s) ns i s h2 l2 ((parseP s).map AV.str) (termsA (fun p=>asksA [] [] p.1 p.2) [(sEq,.mk h2 l2)])) Fb14_z3 [(100004,100009)] [] Fb14_z1
theorem query63 (n:Nat) (hT:TestR W n) (hQ:QueryR W n):QueryR W (n+1):=by
 intro v d t t' hk hsz hcn hnm hd0 ht0 ht64
 obtain ⟨h,l⟩:=v
 rw [chkQ] at hk
 split at hk
 ·cases hk
 rename_i hne
 split at hk
 ·cases hk
 rename_i hd16
 have hln:=mems_ln (.mk h l)
 have hme:=mem_min h l
 have hml:=JV.mems_len (.mk h l)
 have k6:h.kind=6:=Classical.byContradiction hne
 have hlp:LoopC Tryz.prog W [100000] (nslots Tryz.prog 63) (loopOf Tryz.prog 63 0) (S63 h l d t [] ((JV.mk h l).mem:Nat) 0) (.exit 0) (E63 t' ((JV.mk h l).mems.map (nodeA n))):=by
  refine loopC_inv (fun q:Nat×Int=>S63 h l d q.2 (((JV.mk h l).mems.take q.1).map (nodeA n)) ((JV.mk h l).mem:Nat) q.1)
   (fun q=>q.1<=(JV.mk h l).mems.length/\foldX _ ((JV.mk h l).mems.drop q.1) q.2=.ok t'/\0<=q.2/\q.2<=64) (fun q=>(JV.mk h l).mems.length - q.1) (by simp) ?_ (0,t) ⟨by simp,hk,ht0,ht64⟩
  rintro ⟨i,u⟩ ⟨a1,a2,a3,a4⟩
  simp only at a1 a2 a3 a4
  by_cases hi:i<(JV.mk h l).mems.length
  ·left
   obtain ⟨p,hp⟩:=getOf hi
   rw [drop_get hp,foldX] at a2
   split at a2
   ·rename_i u1 hu
    have hpm:=mems_mem (List.mem_of_getElem? hp)
    have hpi:=mem_item hpm.2
    have hle:u<=u1/\(u<=64->u1<=64):=by
     have hu':=hu
     split at hu'
     ·split at hu'
      ·cases hu'
      ·exact foldX_le (fun y hy u u' hu=>(chk_le n).2 _ _ _ _ hu) hu'
     split at hu'
     ·cases hu'
     split at hu'
     ·cases hu'
     split at hu'
     ·exact (chk_le n).1 _ _ _ _ hu'
     split at hu'
     ·cases hu'
     ·cases hu';exact ⟨by omega,fun q=>by omega⟩
    have hsn:((JV.mk h l).mems.take (i+1)).map (nodeA n)=((JV.mk h l).mems.take i).map (nodeA n)++[nodeA n p]:=by rw [take_snoc hp,List.map_append];rfl
    have hcl:=nodes_clo n ((JV.mk h l).mems.take (i+1))
    refine ⟨(i+1,u1),⟨by simp only;omega,a2,by simp only;omega,hle.2 a4⟩,by simp only;omega,?_⟩
    simp only
    rw [hsn] at hcl ⊢
    exact round63 W h l n hT hQ d u u1 _ _ i p hp (by omega) (by omega) (by simp only [List.length_map,List.length_take];omega) hcl ⟨hd0,by omega⟩ a3 a4 (by omega) (by omega) (nmV_mem hnm hpm.2) (nmV_name hnm hpm.1) hu
   ·cases a2
  ·right
   have hil:i=(JV.mk h l).mems.length:=by omega
   subst hil
   rw [List.drop_length] at a2
   simp only [foldX] at a2
   cases a2
   simp only
   rw [List.take_length]
   have hb1:decide (((JV.mk h l).mems.length:Int)<(((JV.mk h l).mem:Nat):Int))=false:=decide_eq_false (by omega)
   have hcl:=nodes_clo n (JV.mk h l).mems
   exact body_of_sbodyK mixedz (x63_0 W h l d t' _ _ _) Fb14_z3 [] [] Fb14_z1
 rw [show qN (n+1) (.mk h l)=(JV.mk h l).mems.map (nodeA n) by rw [qN];rfl]
 have hcl:=nodes_clo n (JV.mk h l).mems
 generalize (JV.mk h l).mems.map (nodeA n)=ns at hlp hcl
 have hb1:(!decide (h.kind=6))=false:=by rw [decide_eq_true k6];rfl
 have hM:=mut_of_sfun mixedz call63 rfl (p63_0 W h l d t t' ((JV.mk h l).mem:Nat) ns) Fb14_z4
 have h2:=mut_frz [(100004,.arr 146 1 ns .own)] hM (frz2 rfl hcl)
 rw [show clA [(100004,.arr 146 1 ns .own)] (.agg [.gs 100004 0 ns.length])=.agg [.sl 1 ns []] by simp [clA,clL,lk]] at h2
 exact mut_match [] [] h2 Fb14_z1
theorem readers:∀ n,TestR W n/\QueryR W n
 | 0=>⟨fun v d t t' _ h=>by omega,fun v d t t' _ h=>by omega⟩
 | n+1=>⟨test111 W n (readers n).1 (readers n).2,query63 W n (readers n).1 (readers n).2⟩
theorem parse17 {n:Nat} {q:JV} {t:Int} (hk:chkQ n q 0 0=.ok t) (hsz:sizeV q<n) (hcn:cntV q<=2 ^ 30) (hnm:nmV q):Pure Tryz.prog W 17 [encV q] (.tup [filA n q t,iA 0]):=by
 have h1:=(readers W n).2 q 0 0 t hk hsz hcn hnm (Int.le_refl _) (Int.le_refl _) (by omega)
 have hcl:cloL [encV q,iA 0]=true:=by simp [cloL,encV_clo,iA,AV.clo]
 have h2:=mut_name (k1:=100000) (k2:=100003) (x:=iA 0) (y:=iA t) (rest:=[encV q,iA 0]) (by omega) rfl rfl rfl rfl hcl h1
 have hf:(iA 0).flat=(AV.agg [iA 0]).flat:=rfl
 have hc:=mut_flat1 hf h2
 obtain ⟨h,l⟩:=q
 exact pure_frz [(100005,.box (.agg [.sl 1 (qN n (.mk h l)) [],iA t]) .own)] (mut_of_sfunD mixedz call17 rfl (p17_0 W h l t (qN n (.mk h l))) Fb14_z3) (frz2 rfl rfl) rfl rfl
end
end Go.Ac

