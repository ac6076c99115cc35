/- What is proved: contracts of functions of this translation, walked; their plain meaning. No condition beyond those that each theorem names. -/
import Derived.Test.YtdalodgajiodhaaGreatDoorMb1
set_option linter.all false
namespace Go.Ac
open Go Go.Proofs
set_option maxRecDepth 10000
set_option maxHeartbeats 1000000
theorem Fb5_z1 {kp f ph σ σ'} (h:MatchK kp f ph σ σ':=by exact ⟨by rfl,(by simp only [S76,E76,R76,S23,E23,tOK,List.map_cons,List.map_nil,and_true]<;>exact zt),(by simp only [S76,E76,R76,S23,E23,hOK,List.map_cons,List.map_nil,and_true]<;>exact zh),(by simp only [S76,E76,R76,S23,E23,liveT,List.map_cons,List.map_nil,and_true]<;>exact zv),(by simp only [S76,E76,R76,S23,E23,liveH,List.map_cons,List.map_nil,and_true]<;>exact zv)⟩):MatchK kp f ph σ σ':=h
theorem Fb5_z5 {cs} (h:Holds cs:=by simp only [Holds,and_true]<;>and_intros<;>first|exact zd):Holds cs:=h
theorem Fb5_z6 {cs} (h:Holds cs:=by simp only [Holds,and_true]<;>and_intros<;>first|exact zd|exact Fb5_z1):Holds cs:=h
def S76 (p:List (List UInt8)) (t:Int) (i:Nat):AS:=⟨[(5,iA t),(6,.gs 100000 0 i),(10,.sl 1 (p.map AV.str) []),(11,iA p.length),(12,iA i)],[(100000,.arr 9 1 ((p.take i).map AV.str) .own)]⟩
def E76 (p:List (List UInt8)):AS:=⟨[(6,.gs 100000 0 p.length)],[(100000,.arr 9 1 (p.map AV.str) .own)]⟩
def R76 (t:Int):AS:=⟨[(2,.val (.slice none 0 0)),(3,iA 20),(4,iA t)],[]⟩
def S23 (s:List UInt8) (p:List (List UInt8)) (a i j:Nat):AS:=⟨[(0,.str s),(5,.gs 100000 0 j),(6,iA a),(7,iA i)],[(100000,.arr 9 1 ((p.take j).map AV.str) .own)]⟩
def E23 (p:List (List UInt8)):AS:=⟨[(5,.gs 100000 0 p.length)],[(100000,.arr 9 1 (p.map AV.str) .own)]⟩
theorem b76_0 (W:World) (p:List (List UInt8)) (t:Int) (i:Nat) (x:List UInt8):sQ W {lp:=true,tl:=[59]} 29 0 [] [2,3,4,5,6,10,11,12] (S76 p t i) [bt,aE 1,oS (.str x),ee,cR (bA (segB x)) [],bt,bt,bt,bt,ee]=.ok ((.ret,{t:=[(2,.val (Value.slice none 0 0)),(3,iA 20),(4,iA t),(5,iA t),(6,.gs 100000 0 i),(10,sL 1 (List.map AV.str p)),(11,iA (p.length:Int)),(12,iA (i:Int))],h:=[(100000,.arr 9 1 (List.map AV.str (List.take i p)) .own)]}),[aE 9999999],d4 ((!segB x)=true) [MZ W 59 [.str x] [] (.ret (bA (segB x)) []),(List.map AV.str p)[(i:Int).toNat]?=some (AV.str x),decide ((i:Int)<(p.length:Int))=true]):=kr
theorem b76_1 (W:World) (p:List (List UInt8)) (t:Int) (i:Nat) (x:List UInt8):sQ W {lp:=true,tl:=[59]} 29 0 [] [2,3,4,5,6,10,11,12] (S76 p t i) [bt,aE 1,oS (.str x),ee,cR (bA (segB x)) [],bf,bf,bf,bf,bt,ee]=.ok ((.ret,{t:=[(2,.val (Value.slice none 0 0)),(3,iA 20),(4,iA t),(5,iA t),(6,.gs 100000 0 i),(10,sL 1 (List.map AV.str p)),(11,iA (p.length:Int)),(12,iA (i:Int))],h:=[(100000,.arr 9 1 (List.map AV.str (List.take i p)) .own)]}),[ee],(decide ((i:Int)=16)=true)::(d4 ((!segB x)=false) [MZ W 59 [.str x] [] (.ret (bA (segB x)) []),(List.map AV.str p)[(i:Int).toNat]?=some (AV.str x),decide ((i:Int)<(p.length:Int))=true])):=kr
theorem b76_2 (W:World) (p:List (List UInt8)) (t:Int) (i:Nat) (x:List UInt8):sQ W {lp:=true,tl:=[59]} 29 0 [] [2,3,4,5,6,10,11,12] (S76 p t i) [bt,aE 1,oS (.str x),ee,cR (bA (segB x)) [],bf,bf,bf,bf,bf,aE 1,.lg,.lg,ee]=.ok ((.normal,{t:=[(5,iA (IntKind.i64.wrap (t+IntKind.i64.wrap ((x.length:Int)+1)))),(6,.gs 100002 0 (i+[AV.str x].length)),(10,sL 1 (List.map AV.str p)),(11,iA (p.length:Int)),(12,iA (IntKind.i64.wrap ((i:Int)+1)))],h:=[(100000,.dead),(100001,.arr 9 1 [.str x] .own),(100002,.arr 9 1 (List.take i (List.map AV.str (List.take i p))++[AV.str x]) .own)]}),[ee],((i+[AV.str x].length) * 16<=140737488355328)::((St.own=St.own\/St.own=St.shr/\i=(List.map AV.str (List.take i p)).length)/\i<=(List.map AV.str (List.take i p)).length)::(decide ((i:Int)=16)=false)::(d4 ((!segB x)=false) [MZ W 59 [.str x] [] (.ret (bA (segB x)) []),(List.map AV.str p)[(i:Int).toNat]?=some (AV.str x),decide ((i:Int)<(p.length:Int))=true])):=kr
theorem b76_3 (W:World) (p:List (List UInt8)) (t:Int) (i:Nat):sQ W {lp:=true,tl:=[59]} 29 0 [] [2,3,4,5,6,10,11,12] (S76 p t i) [bf,ee]=.ok ((.exit 0,{t:=[(5,iA t),(6,.gs 100000 0 i),(10,sL 1 (List.map AV.str p)),(11,iA (p.length:Int)),(12,iA (i:Int))],h:=[(100000,.arr 9 1 (List.map AV.str (List.take i p)) .own)]}),[ee],[decide ((i:Int)<(p.length:Int))=false]):=kr
theorem p76_0 (W:World) (s:List UInt8) (p:List (List UInt8)) (t:Int):sF W {fin:=9,lp:=true,tl:=[58]} 29 [.str s] [] 100000 [ee,cR (sL 1 (List.map AV.str p)) [],ee,.loopM [] [(100000,1)] (S76 p 0 0) (.exit 0) (E76 p),ee,.fin [] [] (.tup [.gs 100000 0 p.length,iA 0,iA 0]) [(100000,.arr 9 1 (List.map AV.str p) .own)],ee] []=.ok (.ret (.tup [.gs 100000 0 p.length,iA 0,iA 0]) [(100000,.arr 9 1 (List.map AV.str p) .own)],[ee],[MatchK [] [] [] {t:=[(0,.tup [.gs 100000 0 p.length,iA 0,iA 0])],h:=[(100000,.arr 9 1 (List.map AV.str p) .own)]} {t:=[(0,.tup [.gs 100000 0 p.length,iA 0,iA 0])],h:=[(100000,.arr 9 1 (List.map AV.str p) .own)]},LZ W [] 29 0 (S76 p 0 0) (.exit 0) (E76 p),MatchK [] [] [(100000,1)] {t:=[(5,iA 0),(6,.val (Value.slice none 0 0)),(10,sL 1 (List.map AV.str p)),(11,iA (↑(List.map AV.str p).length:Int)),(12,iA 0)],h:=[]} (S76 p 0 0),MZ W 58 [.str s,.str [46]] [] (.ret (sL 1 (List.map AV.str p)) [])]):=kr
theorem q76_0 (W:World) (s:List UInt8) (p:List (List UInt8)) (t:Int):sF W {lp:=true,tl:=[58]} 29 [.str s] [] 100000 [ee,cR (sL 1 (List.map AV.str p)) [],ee,.loopM [] [(100000,1)] (S76 p 0 0) .ret (R76 t),ee] []=.ok (.ret (.tup [.val (Value.slice none 0 0),iA 20,iA t]) [],[ee],[LZ W [] 29 0 (S76 p 0 0) .ret (R76 t),MatchK [] [] [(100000,1)] {t:=[(5,iA 0),(6,.val (Value.slice none 0 0)),(10,sL 1 (List.map AV.str p)),(11,iA (↑(List.map AV.str p).length:Int)),(12,iA 0)],h:=[]} (S76 p 0 0),MZ W 58 [.str s,.str [46]] [] (.ret (sL 1 (List.map AV.str p)) [])]):=kr
theorem b23_0 (W:World) (s:List UInt8) (p:List (List UInt8)) (a i j:Nat) (t:Int) (y:UInt8):sQ W {lp:=true,tl:=[61]} 34 0 [] [0,5,6,7] (S23 s p a i j) [bt,bt,bt,bt,aE 1,Ans.byt (some y),bt,bt,bt,ee]=.ok ((.normal,{t:=[(0,.str s),(5,.gs 100000 0 j),(6,iA (a:Int)),(7,iA (IntKind.i64.wrap ((i:Int)+1)))],h:=[(100000,.arr 9 1 (List.map AV.str (List.take j p)) .own)]}),[ee],((!decide ((y.toNat:Int)=46))=true)::(d2 (decide ((i:Int)<(s.length:Int))=true) ((s[(i:Int).toNat]?=some y)::(d3 (decide ((i:Int)<(s.length:Int))=true) [decide ((i:Int)<=(s.length:Int))=true])))):=kr
theorem b23_1 (W:World) (s:List UInt8) (p:List (List UInt8)) (a i j:Nat) (t:Int) (y:UInt8):sQ W {lp:=true,tl:=[61]} 34 0 [] [0,2,3,4,5,6,7] (S23 s p a i j) [bt,bt,bt,bt,aE 1,Ans.byt (some y),bt,bt,bf,bt,bt,bt,bt,bt,bt,bt,ee]=.ok ((.ret,{t:=[(0,.str s),(2,.val (Value.slice none 0 0)),(3,iA 20),(4,iA (a:Int)),(5,.gs 100000 0 j),(6,iA (a:Int)),(7,iA (i:Int))],h:=[(100000,.arr 9 1 (List.map AV.str (List.take j p)) .own)]}),[aE 9999999],(decide ((j:Int)=16)=true)::(d6 (decide ((j:Int)=16)=true) (((!decide ((y.toNat:Int)=46))=false)::(d2 (decide ((i:Int)<(s.length:Int))=true) ((s[(i:Int).toNat]?=some y)::(d3 (decide ((i:Int)<(s.length:Int))=true) [decide ((i:Int)<=(s.length:Int))=true])))))):=kr
theorem b23_2 (W:World) (s:List UInt8) (p:List (List UInt8)) (a i j:Nat) (t:Int) (x:List UInt8) (y:UInt8):sQ W {lp:=true,tl:=[61]} 34 0 [] [0,2,3,4,5,6,7] (S23 s p a i j) [bt,bt,bt,bt,aE 1,Ans.byt (some y),bt,bt,bf,bf,bf,bf,bf,aE 1,.lg,bf,ee,cR (bA (segB x)) [],bf,bf,bt,ee]=.ok ((.ret,{t:=[(0,.str s),(2,.val (Value.slice none 0 0)),(3,iA 20),(4,iA (a:Int)),(5,.gs 100000 0 j),(6,iA (a:Int)),(7,iA (i:Int))],h:=[(100000,.arr 9 1 (List.map AV.str (List.take j p)) .own)]}),[ee],((!segB x)=true)::(d2 (decide ((j:Int)=16)=false) (MZ W 61 [.str (List.drop (a:Int).toNat (List.take (i:Int).toNat s))] [] (.ret (bA (segB x)) [])::(decide ((j:Int)=16)=false)::((a:Int)<=(i:Int)/\(i:Int)<=(s.length:Int))::(d4 (decide ((j:Int)=16)=false) (((!decide ((y.toNat:Int)=46))=false)::(d2 (decide ((i:Int)<(s.length:Int))=true) ((s[(i:Int).toNat]?=some y)::(d3 (decide ((i:Int)<(s.length:Int))=true) [decide ((i:Int)<=(s.length:Int))=true])))))))):=kr
theorem b23_3 (W:World) (s:List UInt8) (p:List (List UInt8)) (a i j:Nat) (t:Int) (x:List UInt8) (y:UInt8):sQ W {lp:=true,tl:=[61]} 34 0 [] [0,5,6,7] (S23 s p a i j) [bt,bt,bt,bt,aE 1,Ans.byt (some y),bt,bt,bf,bf,bf,bf,bf,aE 1,.lg,bf,ee,cR (bA (segB x)) [],bf,bf,bf,aE 1,.lg,aE 1,.lg,.lg,ee]=.ok ((.normal,{t:=[(0,.str s),(5,.gs 100002 0 (j+[AV.str (List.drop (a:Int).toNat (List.take (i:Int).toNat s))].length)),(6,iA (IntKind.i64.wrap ((i:Int)+1))),(7,iA (IntKind.i64.wrap ((i:Int)+1)))],h:=[(100000,.dead),(100001,.arr 9 1 [.str (List.drop (a:Int).toNat (List.take (i:Int).toNat s))] .own),(100002,.arr 9 1 (List.take j (List.map AV.str (List.take j p))++[AV.str (List.drop (a:Int).toNat (List.take (i:Int).toNat s))]) .own)]}),[ee],((j+[AV.str (List.drop (a:Int).toNat (List.take (i:Int).toNat s))].length) * 16<=140737488355328)::((St.own=St.own\/St.own=St.shr/\j=(List.map AV.str (List.take j p)).length)/\j<=(List.map AV.str (List.take j p)).length)::((a:Int)<=(i:Int)/\(i:Int)<=(s.length:Int))::((!segB x)=false)::(d2 (decide ((j:Int)=16)=false) (MZ W 61 [.str (List.drop (a:Int).toNat (List.take (i:Int).toNat s))] [] (.ret (bA (segB x)) [])::(decide ((j:Int)=16)=false)::((a:Int)<=(i:Int)/\(i:Int)<=(s.length:Int))::(d4 (decide ((j:Int)=16)=false) (((!decide ((y.toNat:Int)=46))=false)::(d2 (decide ((i:Int)<(s.length:Int))=true) ((s[(i:Int).toNat]?=some y)::(d3 (decide ((i:Int)<(s.length:Int))=true) [decide ((i:Int)<=(s.length:Int))=true])))))))):=kr
theorem b23_4 (W:World) (s:List UInt8) (p:List (List UInt8)) (a i j:Nat) (t:Int):sQ W {lp:=true,tl:=[61]} 34 0 [] [0,2,3,4,5,6,7] (S23 s p a i j) [bt,bf,bf,bf,bf,bf,aE 1,bt,bt,bt,bt,bt,bt,bt,ee]=.ok ((.ret,{t:=[(0,.str s),(2,.val (Value.slice none 0 0)),(3,iA 20),(4,iA (a:Int)),(5,.gs 100000 0 j),(6,iA (a:Int)),(7,iA (i:Int))],h:=[(100000,.arr 9 1 (List.map AV.str (List.take j p)) .own)]}),[aE 9999999],(decide ((j:Int)=16)=true)::(d6 (decide ((j:Int)=16)=true) ((decide ((i:Int)<(s.length:Int))=false)::(d4 (decide ((i:Int)<(s.length:Int))=false) [decide ((i:Int)<=(s.length:Int))=true])))):=kr
theorem b23_5 (W:World) (s:List UInt8) (p:List (List UInt8)) (a i j:Nat) (t:Int) (x:List UInt8):sQ W {lp:=true,tl:=[61]} 34 0 [] [0,2,3,4,5,6,7] (S23 s p a i j) [bt,bf,bf,bf,bf,bf,aE 1,bf,bf,bf,bf,aE 1,.lg,bf,ee,cR (bA (segB x)) [],bf,bf,bt,ee]=.ok ((.ret,{t:=[(0,.str s),(2,.val (Value.slice none 0 0)),(3,iA 20),(4,iA (a:Int)),(5,.gs 100000 0 j),(6,iA (a:Int)),(7,iA (i:Int))],h:=[(100000,.arr 9 1 (List.map AV.str (List.take j p)) .own)]}),[ee],((!segB x)=true)::(d2 (decide ((j:Int)=16)=false) (MZ W 61 [.str (List.drop (a:Int).toNat (List.take (i:Int).toNat s))] [] (.ret (bA (segB x)) [])::(decide ((j:Int)=16)=false)::((a:Int)<=(i:Int)/\(i:Int)<=(s.length:Int))::(d4 (decide ((j:Int)=16)=false) ((decide ((i:Int)<(s.length:Int))=false)::(d4 (decide ((i:Int)<(s.length:Int))=false) [decide ((i:Int)<=(s.length:Int))=true])))))):=kr
theorem b23_6 (W:World) (s:List UInt8) (p:List (List UInt8)) (a i j:Nat) (t:Int) (x:List UInt8):sQ W {lp:=true,tl:=[61]} 34 0 [] [0,5,6,7] (S23 s p a i j) [bt,bf,bf,bf,bf,bf,aE 1,bf,bf,bf,bf,aE 1,.lg,bf,ee,cR (bA (segB x)) [],bf,bf,bf,aE 1,.lg,aE 1,.lg,.lg,ee]=.ok ((.normal,{t:=[(0,.str s),(5,.gs 100002 0 (j+[AV.str (List.drop (a:Int).toNat (List.take (i:Int).toNat s))].length)),(6,iA (IntKind.i64.wrap ((i:Int)+1))),(7,iA (IntKind.i64.wrap ((i:Int)+1)))],h:=[(100000,.dead),(100001,.arr 9 1 [.str (List.drop (a:Int).toNat (List.take (i:Int).toNat s))] .own),(100002,.arr 9 1 (List.take j (List.map AV.str (List.take j p))++[AV.str (List.drop (a:Int).toNat (List.take (i:Int).toNat s))]) .own)]}),[ee],((j+[AV.str (List.drop (a:Int).toNat (List.take (i:Int).toNat s))].length) * 16<=140737488355328)::((St.own=St.own\/St.own=St.shr/\j=(List.map AV.str (List.take j p)).length)/\j<=(List.map AV.str (List.take j p)).length)::((a:Int)<=(i:Int)/\(i:Int)<=(s.length:Int))::((!segB x)=false)::(d2 (decide ((j:Int)=16)=false) (MZ W 61 [.str (List.drop (a:Int).toNat (List.take (i:Int).toNat s))] [] (.ret (bA (segB x)) [])::(decide ((j:Int)=16)=false)::((a:Int)<=(i:Int)/\(i:Int)<=(s.length:Int))::(d4 (decide ((j:Int)=16)=false) ((decide ((i:Int)<(s.length:Int))=false)::(d4 (decide ((i:Int)<(s.length:Int))=false) [decide ((i:Int)<=(s.length:Int))=true])))))):=kr
theorem b23_7 (W:World) (s:List UInt8) (p:List (List UInt8)) (a i j:Nat) (t:Int):sQ W {lp:=true,tl:=[61]} 34 0 [] [0,2,3,4,5,6,7] (S23 s p a i j) [bf,ee]=.ok ((.exit 0,{t:=[(0,.str s),(5,.gs 100000 0 j),(6,iA (a:Int)),(7,iA (i:Int))],h:=[(100000,.arr 9 1 (List.map AV.str (List.take j p)) .own)]}),[ee],[decide ((i:Int)<=(s.length:Int))=false]):=kr
theorem p23_0 (W:World) (s:List UInt8) (p:List (List UInt8)) (t:Int):sF W {fin:=9,lp:=true} 34 [.str s] [] 100000 [ee,.loopM [] [(100000,1)] (S23 s p 0 0 0) (.exit 0) (E23 p),ee,.fin [] [] (.tup [.gs 100000 0 p.length,iA 0,iA 0]) [(100000,.arr 9 1 (List.map AV.str p) .own)],ee] []=.ok (.ret (.tup [.gs 100000 0 p.length,iA 0,iA 0]) [(100000,.arr 9 1 (List.map AV.str p) .own)],[ee],[MatchK [] [] [] {t:=[(0,.tup [.gs 100000 0 p.length,iA 0,iA 0])],h:=[(100000,.arr 9 1 (List.map AV.str p) .own)]} {t:=[(0,.tup [.gs 100000 0 p.length,iA 0,iA 0])],h:=[(100000,.arr 9 1 (List.map AV.str p) .own)]},LZ W [] 34 0 (S23 s p 0 0 0) (.exit 0) (E23 p),MatchK [] [] [(100000,1)] {t:=[(0,.str s),(5,.val (Value.slice none 0 0)),(6,iA 0),(7,iA 0)],h:=[]} (S23 s p 0 0 0)]):=kr
theorem q23_0 (W:World) (s:List UInt8) (p:List (List UInt8)) (t:Int):sF W {lp:=true} 34 [.str s] [] 100000 [ee,.loopM [] [(100000,1)] (S23 s p 0 0 0) .ret (R76 t),ee] []=.ok (.ret (.tup [.val (Value.slice none 0 0),iA 20,iA t]) [],[ee],[LZ W [] 34 0 (S23 s p 0 0 0) .ret (R76 t),MatchK [] [] [(100000,1)] {t:=[(0,.str s),(5,.val (Value.slice none 0 0)),(6,iA 0),(7,iA 0)],h:=[]} (S23 s p 0 0 0)]):=kr
theorem call76:callable Tryz.prog 29=true:=kr
theorem call23:callable Tryz.prog 34=true:=kr
def parseAV (s:List UInt8):AV:=.tup [.sl 1 ((parseP s).map AV.str) [],iA (parseE s),iA (parseA s)]
theorem push_eq {p:List (List UInt8)} {i:Nat} {x:List UInt8} (hx:p[i]?=some x):List.take i (List.map AV.str (List.take i p))++[AV.str x]=List.map AV.str (List.take (i+1) p):=by
 rw [take_snoc hx,List.map_append,<-List.map_take,List.take_take,Nat.min_self];rfl
theorem indexByte_at (c:UInt8):∀ (l:List UInt8) (m:Nat),l[m]?=some c->(∀ k,k<m->l[k]? ≠ some c)->Lib.indexByte l c=(m:Int)
 | [],m,h,_=>by simp at h
 | x::l,0,h,_=>by
  have h:x=c:=by simpa using h
  simp [Lib.indexByte,h]
 | x::l,m+1,h,hn=>by
  have h0:¬ x=c:=fun e=>hn 0 (by omega) (by simp [e])
  have ih:=indexByte_at c l m (by simpa using h) fun k hk=>by have:=hn (k+1) (by omega);simpa using this
  simp only [Lib.indexByte,h0,beq_iff_eq,if_false,ih]
  split<;>omega
section
variable (W:World) (s:List UInt8) (p:List (List UInt8))
theorem step76 (hp:∀ x ∈ p,x.length<=2 ^ 30) (i:Nat) (t:Int) (hi:i<p.length) (h16:i<=16) (h0:0<=t) (ht:t<=i * (2 ^ 30+1)) (x:List UInt8) (hx:p[i]?=some x) (hb:¬ (segB x=false\/i=16)) :
 BodyC Tryz.prog W [] (nslots Tryz.prog 29) (loopOf Tryz.prog 29 0) (S76 p t i) .normal (S76 p (t+(x.length+1)) (i+1)):=by
 have hxl:=hp x (List.mem_of_getElem? hx)
 have hws:IntKind.i64.wrap ((i:Int)+1)=((i+1:Nat):Int):=wrap_succ (by omega)
 have hwt:IntKind.i64.wrap (t+IntKind.i64.wrap ((x.length:Int)+1))=t+((x.length:Int)+1):=by rw [IntWalk.i64_in ((x.length:Int)+1) (by omega),IntWalk.i64_in _ (by omega)]
 have hc:=mut_of_pure (by rfl) (segment116 W x)
 have hsx:(!segB x)=false:=by cases e:segB x with
  | true=>rfl
  | false=>exact absurd (.inl e) hb
 have h16':¬ i=16:=fun e=>hb (.inr e)
 have hget:(List.map AV.str p)[((i:Int)).toNat]?=some (AV.str x):=by rw [Int.toNat_natCast];exact strs_get hx
 exact body_of_sbodyK mixedz (b76_2 W p t i x) Fb5_z5 [(100000,100002)] [] Fb5_z1
theorem loop76 (hp:∀ x ∈ p,x.length<=2 ^ 30) (hn:scanV p 0 0=none):∀ q:Nat×Int,(q.1<=p.length/\q.1<=16/\scanV p 0 0=scanV (p.drop q.1) q.1 q.2/\0<=q.2/\q.2<=q.1 * (2 ^ 30+1)) →
 LoopC Tryz.prog W [] (nslots Tryz.prog 29) (loopOf Tryz.prog 29 0) (S76 p q.2 q.1) (.exit 0) (E76 p):=by
 refine loopC_inv (fun q:Nat×Int=>S76 p q.2 q.1) (fun q=>q.1<=p.length/\q.1<=16/\scanV p 0 0=scanV (p.drop q.1) q.1 q.2/\0<=q.2/\q.2<=q.1 * (2 ^ 30+1)) (fun q=>p.length - q.1) (by simp) ?_
 rintro ⟨i,t⟩ ⟨h1,h2,h3,h4,h5⟩
 simp only at h1 h2 h3 h4 h5
 by_cases hi:i<p.length
 ·left
  obtain ⟨x,hx⟩:=getOf hi
  have hxl:=hp x (List.mem_of_getElem? hx)
  by_cases hb:segB x=false\/i=16
  ·exfalso
   rw [hn,scan_stop hx hb] at h3;cases h3
  ·exact ⟨(i+1,t+(x.length+1)),⟨by simp only;omega,by simp only;omega,by simp only;rw [h3];exact scan_step hx hb,by simp only;omega,by simp only;omega⟩,by simp only;omega,step76 W p hp i t hi h2 h4 h5 x hx hb⟩
 ·right
  have hil:i=p.length:=by omega
  subst hil
  exact body_of_sbodyK mixedz (b76_3 W p t p.length) Fb5_z5 [] [] Fb5_z1
theorem loopR76 (hp:∀ x ∈ p,x.length<=2 ^ 30) {t0:Int} (hn:scanV p 0 0=some t0):∀ q:Nat×Int,(q.1<=p.length/\q.1<=16/\scanV p 0 0=scanV (p.drop q.1) q.1 q.2/\0<=q.2/\q.2<=q.1 * (2 ^ 30+1)) →
 LoopC Tryz.prog W [] (nslots Tryz.prog 29) (loopOf Tryz.prog 29 0) (S76 p q.2 q.1) .ret (R76 t0):=by
 refine loopC_inv (fun q:Nat×Int=>S76 p q.2 q.1) (fun q=>q.1<=p.length/\q.1<=16/\scanV p 0 0=scanV (p.drop q.1) q.1 q.2/\0<=q.2/\q.2<=q.1 * (2 ^ 30+1)) (fun q=>p.length - q.1) (by simp) ?_
 rintro ⟨i,t⟩ ⟨h1,h2,h3,h4,h5⟩
 simp only at h1 h2 h3 h4 h5
 by_cases hi:i<p.length
 ·obtain ⟨x,hx⟩:=getOf hi
  have hxl:=hp x (List.mem_of_getElem? hx)
  by_cases hb:segB x=false\/i=16
  ·right
   rw [hn,scan_stop hx hb] at h3
   obtain rfl:t0=t:=by simpa using h3
   have hget:(List.map AV.str p)[((i:Int)).toNat]?=some (AV.str x):=by rw [Int.toNat_natCast];exact strs_get hx
   have hc:=mut_of_pure (by rfl) (segment116 W x)
   cases e:segB x with
   | false =>
    have hsx:(!segB x)=true:=by rw [e];rfl
    exact body_of_sbodyK mixedz (b76_0 W p t0 i x) Fb5_z5 [] [] Fb5_z1
   | true =>
    have hsx:(!segB x)=false:=by rw [e];rfl
    have h16:i=16:=by rcases hb with hb|hb;(rw [e] at hb;cases hb);exact hb
    exact body_of_sbodyK mixedz (b76_1 W p t0 i x) Fb5_z5 [] [] Fb5_z1
  ·left
   exact ⟨(i+1,t+(x.length+1)),⟨by simp only;omega,by simp only;omega,by simp only;rw [h3];exact scan_step hx hb,by simp only;omega,by simp only;omega⟩,by simp only;omega,step76 W p hp i t hi h2 h4 h5 x hx hb⟩
 ·exfalso
  have hil:i=p.length:=by omega
  subst hil
  rw [hn,List.drop_length] at h3
  cases h3
theorem Parse76 (hs:s.length<=2 ^ 30):Pure Tryz.prog W 29 [.str s] (parseAV s):=by
 have hp:∀ x ∈ splitD 46 s,x.length<=2 ^ 30:=fun x hx=>by have:=splitD_part 46 s x hx;omega
 have hc:=mut_of_pure (by rfl) (Split115 W s hs)
 have hpl:(splitD 46 s).length<=2 ^ 30+1:=by have:=splitD_len 46 s;have:=countByte_le s 46;omega
 cases hq:scanV (splitD 46 s) 0 0 with
 | none =>
  have hlp:=loop76 W _ hp hq (0,0) ⟨by simp,by simp,by simp,by simp,by simp⟩
  have h:=mut_of_sfun mixedz call76 rfl (p76_0 W s (splitD 46 s) 0) Fb5_z6
  exact pure_frz [(100000,.arr 9 1 ((splitD 46 s).map AV.str) .own)] h (by intro q hq;simp only [List.mem_singleton] at hq;subst hq;exact ⟨by simp [hg],by simp [Frzable,cloL_str]⟩) (by
   simp [parseAV,parseP,parseE,parseA,hq,clA,clL,lk,iA];try exact List.take_of_length_le (by simp)) rfl
 | some t0 =>
  have hlp:=loopR76 W _ hp hq (0,0) ⟨by simp,by simp,by simp,by simp,by simp⟩
  refine pure_leR ?_ (pure_of_mut (by rfl) (mut_of_sfun mixedz call76 rfl (q76_0 W s (splitD 46 s) t0) Fb5_z6))
  unfold parseAV parseP parseE parseA
  rw [hq]
  exact .tup (.cons (.nil 1) (.cons (.refl _) (.cons (.refl _) .nil)))
theorem scan_head {a i j:Nat} (ha:a<=i) (hi:i<=s.length) (hsp:splitD 46 (s.drop a)=p.drop j) (hno:∀ k,a<=k->k<i->s[k]? ≠ some 46) (hend:i=s.length\/s[i]?=some 46) :
 p[j]?=some (List.drop a (List.take i s))/\(List.drop a (List.take i s)).length=i - a/\(i=s.length->j+1=p.length)/\(s[i]?=some 46->splitD 46 (s.drop (i+1))=p.drop (j+1)):=by
 have hlen:(List.drop a (List.take i s)).length=i - a:=by simp only [List.length_drop,List.length_take];omega
 have hdt:List.drop a (List.take i s)=(s.drop a).take (i - a):=by rw [List.drop_take]
 rcases hend with he|he
 ·have hneg:Lib.indexByte (s.drop a) 46<0:=(indexByte_neg 46 _).2 fun hm=>by
   obtain ⟨k,hk⟩:=List.getElem?_of_mem hm
   rw [List.getElem?_drop] at hk
   have:=(List.getElem?_eq_some_iff.1 hk).1
   exact hno (a+k) (by omega) (by omega) hk
  have e1:=splitD_one 46 _ hneg
  have e2:=hsp.symm.trans e1
  refine ⟨?_,hlen,fun _=>?_,fun h=>?_⟩
  ·have:=congrArg List.head? e2
   rw [List.head?_drop] at this
   rw [this,hdt,List.take_of_length_le (by simp only [List.length_drop];omega)];rfl
  ·have:=congrArg List.length e2
   simp only [List.length_drop,List.length_cons,List.length_nil] at this;omega
  ·have:=(List.getElem?_eq_some_iff.1 h).1;omega
 ·have hil:=(List.getElem?_eq_some_iff.1 he).1
  have hat:Lib.indexByte (s.drop a) 46=((i - a:Nat):Int):=indexByte_at 46 _ _ (by rw [List.getElem?_drop];rw [show a+(i - a)=i by omega];exact he) fun k hk=>by
   rw [List.getElem?_drop];exact hno (a+k) (by omega) (by omega)
  obtain ⟨e1,_⟩:=splitD_cut 46 _ _ hat
  have e2:=hsp.symm.trans e1
  refine ⟨?_,hlen,fun h=>by omega,fun _=>?_⟩
  ·have:=congrArg List.head? e2
   rw [List.head?_drop] at this
   rw [this,hdt];rfl
  ·have:=congrArg List.tail e2
   rw [List.tail_drop,List.tail_cons,List.drop_drop] at this
   rw [this];congr 2;omega
def ScanI (s:List UInt8) (p:List (List UInt8)) (q:Nat×Nat×Nat):Prop :=
 (q.1<=s.length/\q.2.1<=q.1/\splitD 46 (s.drop q.2.1)=p.drop q.2.2/\(∀ k,q.2.1<=k->k<q.1->s[k]? ≠ some 46)/\scanV p 0 0=scanV (p.drop q.2.2) q.2.2 q.2.1)\/(q.1=s.length+1/\q.2.2=p.length/\scanV p 0 0=none)
theorem step23 (hs:s.length<=2 ^ 30) (hpl:p.length<=2 ^ 30+1) (i a j:Nat) (h:ScanI s p (i,a,j)) (hi:i<=s.length) :
 (∃ q,ScanI s p q/\s.length+1 - q.1<s.length+1 - i/\BodyC Tryz.prog W [] (nslots Tryz.prog 34) (loopOf Tryz.prog 34 0) (S23 s p a i j) .normal (S23 s p q.2.1 q.1 q.2.2)) ∨
 (∃ t:Int,scanV p 0 0=some t/\BodyC Tryz.prog W [] (nslots Tryz.prog 34) (loopOf Tryz.prog 34 0) (S23 s p a i j) .ret (R76 t)):=by
 rcases h with ⟨_,h2,h3,h4,h5⟩|⟨h1,_,_⟩
 case inr=>simp only at h1;omega
 simp only at h2 h3 h4 h5
 have hws:IntKind.i64.wrap ((i:Int)+1)=((i+1:Nat):Int):=wrap_succ (by omega)
 by_cases hl:i<s.length
 ·obtain ⟨y,hy⟩:=getOf hl
  have hget:s[((i:Int)).toNat]?=some y:=by rw [Int.toNat_natCast];exact hy
  by_cases hd:(y.toNat:Int)=46
  case neg =>
   left
   have hne:s[i]? ≠ some 46:=by rw [hy];intro e;simp only [Option.some.injEq] at e;exact hd ((u8_eq y 46 46 rfl).2 e)
   have hsy:(!decide ((y.toNat:Int)=46))=true:=by rw [decide_eq_false hd];rfl
   exact ⟨(i+1,a,j),.inl ⟨by simp only;omega,by simp only;omega,h3,fun k k1 k2=>by
    simp only at k1 k2
    by_cases e:k=i
    ·subst e;exact hne
    ·exact h4 k k1 (by omega),h5⟩,by simp only;omega,body_of_sbodyK mixedz (b23_0 W s p a i j 0 y) Fb5_z5 [] [] Fb5_z1⟩
  have hdot:s[i]?=some 46:=by rw [hy,(u8_eq y 46 46 rfl).1 hd]
  have hsy:(!decide ((y.toNat:Int)=46))=false:=by rw [decide_eq_true hd];rfl
  obtain ⟨g1,g2,_,g4⟩:=scan_head s p h2 hi h3 h4 (.inr hdot)
  have hjl:j<p.length:=(List.getElem?_eq_some_iff.1 g1).1
  generalize hx:List.drop a (List.take i s)=x at g1 g2
  have hc:MutC Tryz.prog W 61 [AV.str (List.drop ((a:Int)).toNat (List.take ((i:Int)).toNat s))] [] (OutC.ret (bA (segB x)) []):=by
   rw [Int.toNat_natCast,Int.toNat_natCast,hx];exact mut_of_pure (by rfl) (segment68 W x (by omega))
  have hxx:AV.str (List.drop ((a:Int)).toNat (List.take ((i:Int)).toNat s))=AV.str x:=by rw [Int.toNat_natCast,Int.toNat_natCast,hx]
  by_cases h16:j=16
  ·exact .inr ⟨a,by rw [h5,scan_stop g1 (.inr h16)],body_of_sbodyK mixedz (b23_1 W s p a i j 0 y) Fb5_z5 [] [] Fb5_z1⟩
  cases e:segB x with
  | false =>
   have hsx:(!segB x)=true:=by rw [e];rfl
   exact .inr ⟨a,by rw [h5,scan_stop g1 (.inl e)],body_of_sbodyK mixedz (b23_2 W s p a i j 0 x y) Fb5_z5 [] [] Fb5_z1⟩
  | true =>
   have hsx:(!segB x)=false:=by rw [e];rfl
   left
   refine ⟨(i+1,i+1,j+1),.inl ⟨by simp only;omega,Nat.le_refl _,g4 hdot,fun k k1 k2=>by simp only at k1 k2;omega,?_⟩,by simp only;omega,body_of_sbodyK mixedz (b23_3 W s p a i j 0 x y) Fb5_z5 [(100000,100002)] [] Fb5_z1⟩
   rw [h5,scan_step g1 (by rintro (h|h);(rw [e] at h;cases h);exact h16 h)]
   simp only;congr 1;omega
 ·have hil:i=s.length:=by omega
  obtain ⟨g1,g2,g3,_⟩:=scan_head s p h2 hi h3 h4 (.inl hil)
  have hjl:j<p.length:=(List.getElem?_eq_some_iff.1 g1).1
  generalize hx:List.drop a (List.take i s)=x at g1 g2
  have hc:MutC Tryz.prog W 61 [AV.str (List.drop ((a:Int)).toNat (List.take ((i:Int)).toNat s))] [] (OutC.ret (bA (segB x)) []):=by
   rw [Int.toNat_natCast,Int.toNat_natCast,hx];exact mut_of_pure (by rfl) (segment68 W x (by omega))
  have hxx:AV.str (List.drop ((a:Int)).toNat (List.take ((i:Int)).toNat s))=AV.str x:=by rw [Int.toNat_natCast,Int.toNat_natCast,hx]
  by_cases h16:j=16
  ·exact .inr ⟨a,by rw [h5,scan_stop g1 (.inr h16)],body_of_sbodyK mixedz (b23_4 W s p a i j 0) Fb5_z5 [] [] Fb5_z1⟩
  cases e:segB x with
  | false =>
   have hsx:(!segB x)=true:=by rw [e];rfl
   exact .inr ⟨a,by rw [h5,scan_stop g1 (.inl e)],body_of_sbodyK mixedz (b23_5 W s p a i j 0 x) Fb5_z5 [] [] Fb5_z1⟩
  | true =>
   have hsx:(!segB x)=false:=by rw [e];rfl
   left
   have hj1:=g3 hil
   refine ⟨(i+1,i+1,j+1),.inr ⟨by simp only;omega,hj1,?_⟩,by simp only;omega,body_of_sbodyK mixedz (b23_6 W s p a i j 0 x) Fb5_z5 [(100000,100002)] [] Fb5_z1⟩
   rw [h5,scan_step g1 (by rintro (h|h);(rw [e] at h;cases h);exact h16 h),hj1,List.drop_length];rfl
theorem loop23 (hs:s.length<=2 ^ 30) (hpl:p.length<=2 ^ 30+1) (hn:scanV p 0 0=none):∀ q,ScanI s p q->LoopC Tryz.prog W [] (nslots Tryz.prog 34) (loopOf Tryz.prog 34 0) (S23 s p q.2.1 q.1 q.2.2) (.exit 0) (E23 p):=by
 refine loopC_inv (fun q:Nat×Nat×Nat=>S23 s p q.2.1 q.1 q.2.2) (ScanI s p) (fun q=>s.length+1 - q.1) (by simp) ?_
 rintro ⟨i,a,j⟩ h
 by_cases hi:i<=s.length
 ·rcases step23 W s p hs hpl i a j h hi with ⟨q,h1,h2,h3⟩|⟨t,h1,_⟩
  ·exact .inl ⟨q,h1,h2,h3⟩
  ·rw [hn] at h1;cases h1
 ·right
  rcases h with ⟨h1,_⟩|⟨h1,h2,_⟩
  ·exact absurd h1 hi
  simp only at h1 h2
  subst h2
  exact body_of_sbodyK mixedz (b23_7 W s p a i p.length 0) Fb5_z5 [] [] Fb5_z1
theorem loopR23 (hs:s.length<=2 ^ 30) (hpl:p.length<=2 ^ 30+1) {t0:Int} (hn:scanV p 0 0=some t0):∀ q,ScanI s p q->LoopC Tryz.prog W [] (nslots Tryz.prog 34) (loopOf Tryz.prog 34 0) (S23 s p q.2.1 q.1 q.2.2) .ret (R76 t0):=by
 refine loopC_inv (fun q:Nat×Nat×Nat=>S23 s p q.2.1 q.1 q.2.2) (ScanI s p) (fun q=>s.length+1 - q.1) (by simp) ?_
 rintro ⟨i,a,j⟩ h
 by_cases hi:i<=s.length
 ·rcases step23 W s p hs hpl i a j h hi with ⟨q,h1,h2,h3⟩|⟨t,h1,h2⟩
  ·exact .inl ⟨q,h1,h2,h3⟩
  ·rw [hn] at h1
   obtain rfl:t0=t:=by simpa using h1
   exact .inr h2
 ·exfalso
  rcases h with ⟨h1,_⟩|⟨_,_,h2⟩
  ·exact hi h1
  ·rw [hn] at h2;cases h2
theorem Parse23 (hs:s.length<=2 ^ 30):Pure Tryz.prog W 34 [.str s] (parseAV s):=by
 have hpl:(splitD 46 s).length<=2 ^ 30+1:=by have:=splitD_len 46 s;have:=countByte_le s 46;omega
 have hI:ScanI s (splitD 46 s) (0,0,0):=.inl ⟨by simp,by simp,by simp,by intro k _ h;simp only at h;omega,by simp⟩
 cases hq:scanV (splitD 46 s) 0 0 with
 | none =>
  have hlp:=loop23 W s _ hs hpl hq (0,0,0) hI
  have h:=mut_of_sfun mixedz call23 rfl (p23_0 W s (splitD 46 s) 0) Fb5_z6
  exact pure_frz [(100000,.arr 9 1 ((splitD 46 s).map AV.str) .own)] h (by intro q hq;simp only [List.mem_singleton] at hq;subst hq;exact ⟨by simp [hg],by simp [Frzable,cloL_str]⟩) (by
   simp [parseAV,parseP,parseE,parseA,hq,clA,clL,lk,iA];try exact List.take_of_length_le (by simp)) rfl
 | some t0 =>
  have hlp:=loopR23 W s _ hs hpl hq (0,0,0) hI
  refine pure_leR ?_ (pure_of_mut (by rfl) (mut_of_sfun mixedz call23 rfl (q23_0 W s (splitD 46 s) t0) Fb5_z6))
  unfold parseAV parseP parseE parseA
  rw [hq]
  exact .tup (.cons (.nil 1) (.cons (.refl _) (.cons (.refl _) .nil)))
end
end Go.Ac

namespace Go.Ac
open Go Go.Proofs
set_option maxRecDepth 10000
set_option maxHeartbeats 1000000
theorem Fb6_z1 {kp f ph σ σ'} (h:MatchK kp f ph σ σ':=by exact ⟨by rfl,(by simp only [S95,E95,S30,E30,S202,E202,S149,tOK,List.map_cons,List.map_nil,and_true]<;>exact zt),(by simp only [S95,E95,S30,E30,S202,E202,S149,hOK,List.map_cons,List.map_nil,and_true]<;>exact zh),(by simp only [S95,E95,S30,E30,S202,E202,S149,liveT,List.map_cons,List.map_nil,and_true]<;>exact zv),(by simp only [S95,E95,S30,E30,S202,E202,S149,liveH,List.map_cons,List.map_nil,and_true]<;>exact zv)⟩):MatchK kp f ph σ σ':=h
theorem Fb6_z5 {cs} (h:Holds cs:=by simp only [Holds,and_true]<;>and_intros<;>first|exact zd|((simp only [defLen1,List.length_cons,List.length_map];omega);done)):Holds cs:=h
theorem Fb6_z6 {cs} (h:Holds cs:=by simp only [Holds,and_true]<;>and_intros<;>first|exact zd|((simp only [defLen1,List.length_cons,List.length_map];omega);done)|exact Fb6_z1):Holds cs:=h
def S95 (l:List JV) (s:List UInt8) (p:List (List UInt8)) (acc:List JV) (i:Nat):AS:=⟨[(1,.sl 1 ((s::p).map AV.str) []),(7,.gs 100001 0 acc.length),(31,.sl 5 (encVs l) []),(32,iA l.length),(33,iA i)],[(100001,.arr 25 5 (encVs acc) .own)]⟩
def E95 (acc:List JV):AS:=⟨[(7,.gs 100001 0 acc.length)],[(100001,.arr 25 5 (encVs acc) .own)]⟩
def S30 (h:JH) (l:List JV) (s:List UInt8) (p:List (List UInt8)) (b:Bool) (acc:List JV) (i:Nat):AS:=⟨[(1,.sl 1 ((s::p).map AV.str) []),(2,.gp 100000 0),(6,bA b),(8,.gs 100001 0 acc.length),(9,iA i)],[(100000,.box (encV (.mk h l)) .own),(100001,.arr 25 5 (encVs acc) .own)]⟩
def E30 (acc:List JV):AS:=⟨[(8,.gs 100001 0 acc.length)],[(100001,.arr 25 5 (encVs acc) .own)]⟩
def S202 (l:List JV) (acc:List JV) (i:Nat):AS:=⟨[(3,.gs 100000 0 acc.length),(6,.sl 5 (encVs l) []),(7,iA l.length),(8,iA i)],[(100000,.arr 25 5 (encVs acc) .own)]⟩
def E202 (acc:List JV):AS:=⟨[(3,.gs 100000 0 acc.length)],[(100000,.arr 25 5 (encVs acc) .own)]⟩
def S149 (l:List JV) (acc:List JV) (i:Nat):AS:=⟨[(0,.sl 5 (encVs l) []),(3,.gs 100000 0 acc.length),(4,iA i)],[(100000,.arr 25 5 (encVs acc) .own)]⟩
theorem p95_2 (W:World) (h:JH) (l:List JV) (s:List UInt8) (p:List (List UInt8)) (m k:Int) (b:Bool) (h2:JH) (l2:List JV) (r:List JV):sF W {lp:=true,fin:=9,tl:=[56,76,45]} 45 [eV h l,.sl 1 ((s::p).map AV.str) []] [] 100000 [ee,cR (.tup [iA m,bA b]) [],bt,bt,bt,bf,ee,cR (iA k) [],bf,.lg,oS (eV h2 l2),aE 1,.lg,ee,cR (sL 5 (encVs r)) [],ee,.fin [] [] (sL 5 (encVs r)) [],ee] []=.ok (.ret (sL 5 (encVs r)) [],[ee],MatchK [] [] [] {t:=[(0,sL 5 (encVs r))],h:=[(100000,gB (eV h l))]} {t:=[(0,sL 5 (encVs r))],h:=[]}::MZ W 45 [eV h2 l2,AV.sl 1 (List.take (List.map AV.str p).length (List.map AV.str p++[])) (List.drop (↑(defLen (sL 1 (.str s::List.map AV.str p))):Int).toNat (.str s::(List.map AV.str p++[])))] [] (.ret (sL 5 (encVs r)) [])::(1<=(↑(defLen (sL 1 (.str s::List.map AV.str p))):Int)/\(↑(defLen (sL 1 (.str s::List.map AV.str p))):Int)<=(↑(AV.str s::List.map AV.str p).length:Int)+0)::((encVs l)[k.toNat]?=some (eV h2 l2))::(0<=k)::(decide (k<0)=false)::MZ W 76 [eV h l,.str s] [] (.ret (iA k) [])::((!b)=false)::(d3 (decide (h.kind=5)=true) [MZ W 56 [.str s] [] (.ret (.tup [iA m,bA b]) [])])):=kr
theorem p95_4 (W:World) (h:JH) (l:List JV) (s:List UInt8) (p:List (List UInt8)) (m k:Int) (b:Bool) (h2:JH) (l2:List JV) (r:List JV):sF W {lp:=true,fin:=9,tl:=[56,76,45]} 45 [eV h l,.sl 1 ((s::p).map AV.str) []] [] 100000 [ee,cR (.tup [iA m,bA b]) [],bf,bf,bf,ee,cR (iA k) [],bf,.lg,oS (eV h2 l2),aE 1,.lg,ee,cR (sL 5 (encVs r)) [],ee,.fin [] [] (sL 5 (encVs r)) [],ee] []=.ok (.ret (sL 5 (encVs r)) [],[ee],MatchK [] [] [] {t:=[(0,sL 5 (encVs r))],h:=[(100000,gB (eV h l))]} {t:=[(0,sL 5 (encVs r))],h:=[]}::MZ W 45 [eV h2 l2,AV.sl 1 (List.take (List.map AV.str p).length (List.map AV.str p++[])) (List.drop (↑(defLen (sL 1 (.str s::List.map AV.str p))):Int).toNat (.str s::(List.map AV.str p++[])))] [] (.ret (sL 5 (encVs r)) [])::(1<=(↑(defLen (sL 1 (.str s::List.map AV.str p))):Int)/\(↑(defLen (sL 1 (.str s::List.map AV.str p))):Int)<=(↑(AV.str s::List.map AV.str p).length:Int)+0)::((encVs l)[k.toNat]?=some (eV h2 l2))::(0<=k)::(decide (k<0)=false)::MZ W 76 [eV h l,.str s] [] (.ret (iA k) [])::(d3 (decide (h.kind=5)=false) [MZ W 56 [.str s] [] (.ret (.tup [iA m,bA b]) [])])):=kr
theorem l95_0 (W:World) (h:JH) (l:List JV) (s:List UInt8) (p:List (List UInt8)) (m:Int) (b:Bool) (acc:List JV):sF W {lp:=true,fin:=9,tl:=[56,76,45]} 45 [eV h l,.sl 1 ((s::p).map AV.str) []] [] 100000 [ee,cR (.tup [iA m,bA b]) [],bt,bt,bt,bt,ee,.loopM [] [(100001,5)] (S95 l s p [] 0) (.exit 0) (E95 acc),ee,.fin [] [] (.gs 100001 0 acc.length) [(100001,.arr 25 5 (encVs acc) .own)],ee] []=.ok (.ret (.gs 100001 0 acc.length) [(100001,.arr 25 5 (encVs acc) .own)],[ee],MatchK [] [] [] {t:=[(0,.gs 100001 0 acc.length)],h:=[(100001,.arr 25 5 (encVs acc) .own)]} {t:=[(0,.gs 100001 0 acc.length)],h:=[(100001,.arr 25 5 (encVs acc) .own)]}::LZ W [] 45 0 (S95 l s p [] 0) (.exit 0) (E95 acc)::MatchK [] [] [(100001,5)] {t:=[(1,sL 1 (.str s::List.map AV.str p)),(7,.val (Value.slice none 0 0)),(31,sL 5 (encVs l)),(32,iA (↑(encVs l).length:Int)),(33,iA 0)],h:=[(100000,gB (eV h l))]} (S95 l s p [] 0)::((!b)=true)::(d3 (decide (h.kind=5)=true) [MZ W 56 [.str s] [] (.ret (.tup [iA m,bA b]) [])])):=kr
theorem z95_1 (W:World) (h:JH) (l:List JV) (s:List UInt8) (p:List (List UInt8)) (m k:Int) (b:Bool):sF W {lp:=true,tl:=[56,76,45]} 45 [eV h l,.sl 1 ((s::p).map AV.str) []] [] 100000 [ee,cR (.tup [iA m,bA b]) [],bt,bt,bt,bf,ee,cR (iA k) [],bt,ee] []=.ok (.ret (.val (Value.slice none 0 0)) [],[ee],(decide (k<0)=true)::MZ W 76 [eV h l,.str s] [] (.ret (iA k) [])::((!b)=false)::(d3 (decide (h.kind=5)=true) [MZ W 56 [.str s] [] (.ret (.tup [iA m,bA b]) [])])):=kr
theorem z95_3 (W:World) (h:JH) (l:List JV) (s:List UInt8) (p:List (List UInt8)) (m k:Int) (b:Bool):sF W {lp:=true,tl:=[56,76,45]} 45 [eV h l,.sl 1 ((s::p).map AV.str) []] [] 100000 [ee,cR (.tup [iA m,bA b]) [],bf,bf,bf,ee,cR (iA k) [],bt,ee] []=.ok (.ret (.val (Value.slice none 0 0)) [],[ee],(decide (k<0)=true)::MZ W 76 [eV h l,.str s] [] (.ret (iA k) [])::(d3 (decide (h.kind=5)=false) [MZ W 56 [.str s] [] (.ret (.tup [iA m,bA b]) [])])):=kr
theorem n95_0 (W:World) (h:JH) (l:List JV):sF W {lp:=true} 45 [eV h l,.sl 1 [] []] [] 100000 [ee] []=.ok (.ret (.gs 100001 0 1) [(100001,.arr 25 5 [eV h l] .own)],[aE 9999999],[]):=kr
theorem p30_0 (W:World) (h:JH) (l:List JV) (s:List UInt8) (p:List (List UInt8)) (m k:Int) (b:Bool) (h2:JH) (l2:List JV) (r:List JV):sF W {lp:=true,fin:=9,tl:=[101,102,85]} 85 [eV h l,.sl 1 ((s::p).map AV.str) []] [] 100000 [ee,cR (.tup [iA m,bA b]) [],ee,cR (iA k) [],bt,.lg,oS (eV h2 l2),aE 1,.lg,ee,cR (sL 5 (encVs r)) [],ee,.fin [] [] (sL 5 (encVs r)) [],ee] []=.ok (.ret (sL 5 (encVs r)) [],[ee],[MatchK [] [] [] {t:=[(0,sL 5 (encVs r))],h:=[(100000,gB (eV h l))]} {t:=[(0,sL 5 (encVs r))],h:=[]},MZ W 85 [eV h2 l2,AV.sl 1 (List.take (List.map AV.str p).length (List.map AV.str p++[])) (List.drop (↑(defLen (sL 1 (.str s::List.map AV.str p))):Int).toNat (.str s::(List.map AV.str p++[])))] [] (.ret (sL 5 (encVs r)) []),1<=(↑(defLen (sL 1 (.str s::List.map AV.str p))):Int)/\(↑(defLen (sL 1 (.str s::List.map AV.str p))):Int)<=(↑(AV.str s::List.map AV.str p).length:Int)+0,(encVs l)[k.toNat]?=some (eV h2 l2),0<=k,decide (0<=k)=true,MZ W 102 [eV h l,.str s] [] (.ret (iA k) []),MZ W 101 [.str s] [] (.ret (.tup [iA m,bA b]) [])]):=kr
theorem l30_1 (W:World) (h:JH) (l:List JV) (s:List UInt8) (p:List (List UInt8)) (m k:Int) (b:Bool) (acc:List JV):sF W {lp:=true,fin:=9,tl:=[101,102,85]} 85 [eV h l,.sl 1 ((s::p).map AV.str) []] [] 100000 [ee,cR (.tup [iA m,bA b]) [],ee,cR (iA k) [],bf,ee,.loopM [] [(100001,5)] (S30 h l s p b [] 0) (.exit 0) (E30 acc),ee,.fin [] [] (.gs 100001 0 acc.length) [(100001,.arr 25 5 (encVs acc) .own)],ee] []=.ok (.ret (.gs 100001 0 acc.length) [(100001,.arr 25 5 (encVs acc) .own)],[ee],[MatchK [] [] [] {t:=[(0,.gs 100001 0 acc.length)],h:=[(100001,.arr 25 5 (encVs acc) .own)]} {t:=[(0,.gs 100001 0 acc.length)],h:=[(100001,.arr 25 5 (encVs acc) .own)]},LZ W [] 85 0 (S30 h l s p b [] 0) (.exit 0) (E30 acc),MatchK [] [] [(100001,5)] {t:=[(1,sL 1 (.str s::List.map AV.str p)),(2,.gp 100000 0),(6,bA b),(8,.val (Value.slice none 0 0)),(9,iA 0)],h:=[(100000,gB (eV h l))]} (S30 h l s p b [] 0),decide (0<=k)=false,MZ W 102 [eV h l,.str s] [] (.ret (iA k) []),MZ W 101 [.str s] [] (.ret (.tup [iA m,bA b]) [])]):=kr
theorem n30_0 (W:World) (h:JH) (l:List JV):sF W {lp:=true} 85 [eV h l,.sl 1 [] []] [] 100000 [ee] []=.ok (.ret (.gs 100001 0 1) [(100001,.arr 25 5 [eV h l] .own)],[aE 9999999],[]):=kr
theorem b95_0 (W:World) (h:JH) (l:List JV) (s:List UInt8) (p:List (List UInt8)) (h2:JH) (l2:List JV) (acc r:List JV) (i:Nat):sQ W {lp:=true,tl:=[45]} 45 0 [] [1,7,31,32,33] (S95 l s p acc i) [bt,aE 1,oS (eV h2 l2),bt,ee,cR (sL 5 (encVs r)) [],aE 1,.lg,.lg,ee]=.ok ((.normal,{t:=[(1,sL 1 (.str s::List.map AV.str p)),(7,.gs 100003 0 (acc.length+(encVs r).length)),(31,sL 5 (encVs l)),(32,iA (l.length:Int)),(33,iA (IntKind.i64.wrap ((i:Int)+1)))],h:=[(100001,.dead),(100002,gB (eV h2 l2)),(100003,.arr 25 5 (List.take acc.length (encVs acc)++encVs r) .own)]}),[ee],[(acc.length+(encVs r).length) * 80<=140737488355328,(St.own=St.own\/St.own=St.shr/\acc.length=(encVs acc).length)/\acc.length<=(encVs acc).length,MZ W 45 [eV h2 l2,sL 1 (.str s::List.map AV.str p)] [] (.ret (sL 5 (encVs r)) []),decide (h2.kind=6)=true,(encVs l)[(i:Int).toNat]?=some (eV h2 l2),decide ((i:Int)<(l.length:Int))=true]):=kr
theorem b95_1 (W:World) (h:JH) (l:List JV) (s:List UInt8) (p:List (List UInt8)) (h2:JH) (l2:List JV) (acc:List JV) (i:Nat):sQ W {lp:=true,tl:=[45]} 45 0 [] [1,7,31,32,33] (S95 l s p acc i) [bt,aE 1,oS (eV h2 l2),bf,ee]=.ok ((.normal,{t:=[(1,sL 1 (.str s::List.map AV.str p)),(7,.gs 100001 0 acc.length),(31,sL 5 (encVs l)),(32,iA (l.length:Int)),(33,iA (IntKind.i64.wrap ((i:Int)+1)))],h:=[(100001,.arr 25 5 (encVs acc) .own),(100002,gB (eV h2 l2))]}),[ee],[decide (h2.kind=6)=false,(encVs l)[(i:Int).toNat]?=some (eV h2 l2),decide ((i:Int)<(l.length:Int))=true]):=kr
theorem b95_2 (W:World) (h:JH) (l:List JV) (s:List UInt8) (p:List (List UInt8)) (acc:List JV) (i:Nat):sQ W {lp:=true,tl:=[45]} 45 0 [] [1,3,7,8,31,32,33] (S95 l s p acc i) [bf,ee]=.ok ((.exit 0,{t:=[(1,sL 1 (.str s::List.map AV.str p)),(7,.gs 100001 0 acc.length),(31,sL 5 (encVs l)),(32,iA (l.length:Int)),(33,iA (i:Int))],h:=[(100001,.arr 25 5 (encVs acc) .own)]}),[ee],[decide ((i:Int)<(l.length:Int))=false]):=kr
theorem b30_0 (W:World) (h:JH) (l:List JV) (s:List UInt8) (p:List (List UInt8)) (b:Bool) (h2:JH) (l2:List JV) (acc r:List JV) (i:Nat):sQ W {lp:=true,tl:=[85]} 85 0 [] [1,2,6,8,9] (S30 h l s p b acc i) [bt,bt,bt,bt,bt,bt,bt,bt,bt,bt,aE 1,oS (eV h2 l2),bt,aE 1,oS (eV h2 l2),ee,cR (sL 5 (encVs r)) [],aE 1,.lg,.lg,ee]=.ok ((.normal,{t:=[(1,sL 1 (.str s::List.map AV.str p)),(2,.gp 100000 0),(6,bA b),(8,.gs 100002 0 (acc.length+(encVs r).length)),(9,iA (IntKind.i64.wrap ((i:Int)+1)))],h:=[(100000,gB (eV h l)),(100001,.dead),(100002,.arr 25 5 (List.take acc.length (encVs acc)++encVs r) .own)]}),[ee],((acc.length+(encVs r).length) * 80<=140737488355328)::((St.own=St.own\/St.own=St.shr/\acc.length=(encVs acc).length)/\acc.length<=(encVs acc).length)::MZ W 85 [eV h2 l2,sL 1 (.str s::List.map AV.str p)] [] (.ret (sL 5 (encVs r)) [])::((encVs l)[(i:Int).toNat]?=some (eV h2 l2))::(decide (h2.kind=6)=true)::((encVs l)[(i:Int).toNat]?=some (eV h2 l2))::(decide ((i:Int)<(↑(encVs l).length:Int))=true)::((!b)=true)::((!b)=true)::((!b)=true)::((!b)=true)::((!b)=true)::((!b)=true)::(d3 (decide (h.kind=5)=true) [])):=kr
theorem b30_1 (W:World) (h:JH) (l:List JV) (s:List UInt8) (p:List (List UInt8)) (b:Bool) (h2:JH) (l2:List JV) (acc:List JV) (i:Nat):sQ W {lp:=true,tl:=[85]} 85 0 [] [1,2,6,8,9] (S30 h l s p b acc i) [bt,bt,bt,bt,bt,bt,bt,bt,bt,bt,aE 1,oS (eV h2 l2),bf,ee]=.ok ((.normal,{t:=[(1,sL 1 (.str s::List.map AV.str p)),(2,.gp 100000 0),(6,bA b),(8,.gs 100001 0 acc.length),(9,iA (IntKind.i64.wrap ((i:Int)+1)))],h:=[(100000,gB (eV h l)),(100001,.arr 25 5 (encVs acc) .own)]}),[ee],(decide (h2.kind=6)=false)::((encVs l)[(i:Int).toNat]?=some (eV h2 l2))::(decide ((i:Int)<(↑(encVs l).length:Int))=true)::((!b)=true)::((!b)=true)::((!b)=true)::((!b)=true)::((!b)=true)::((!b)=true)::(d3 (decide (h.kind=5)=true) [])):=kr
theorem b30_2 (W:World) (h:JH) (l:List JV) (s:List UInt8) (p:List (List UInt8)) (b:Bool) (acc:List JV) (i:Nat):sQ W {lp:=true,tl:=[85]} 85 0 [] [1,2,3,6,7,8,9] (S30 h l s p b acc i) [bt,bt,bt,bt,bt,bt,bt,bt,bt,bf,ee]=.ok ((.exit 0,{t:=[(1,sL 1 (.str s::List.map AV.str p)),(2,.gp 100000 0),(6,bA b),(8,.gs 100001 0 acc.length),(9,iA (i:Int))],h:=[(100000,gB (eV h l)),(100001,.arr 25 5 (encVs acc) .own)]}),[ee],(decide ((i:Int)<(↑(encVs l).length:Int))=false)::((!b)=true)::((!b)=true)::((!b)=true)::((!b)=true)::((!b)=true)::((!b)=true)::(d3 (decide (h.kind=5)=true) [])):=kr
theorem b30_3 (W:World) (h:JH) (l:List JV) (s:List UInt8) (p:List (List UInt8)) (b:Bool) (acc:List JV) (i:Nat):sQ W {lp:=true,tl:=[85]} 85 0 [] [1,2,3,6,7,8,9] (S30 h l s p b acc i) [bt,bt,bt,bf,bf,bf,bf,bf,bf,ee]=.ok ((.exit 0,{t:=[(1,sL 1 (.str s::List.map AV.str p)),(2,.gp 100000 0),(6,bA b),(8,.gs 100001 0 acc.length),(9,iA (i:Int))],h:=[(100000,gB (eV h l)),(100001,.arr 25 5 (encVs acc) .own)]}),[aE 9999999],d6 ((!b)=false) (d3 (decide (h.kind=5)=true) [])):=kr
theorem b30_4 (W:World) (h:JH) (l:List JV) (s:List UInt8) (p:List (List UInt8)) (b:Bool) (acc:List JV) (i:Nat):sQ W {lp:=true,tl:=[85]} 85 0 [] [1,2,3,6,7,8,9] (S30 h l s p b acc i) [bf,bf,bf,ee]=.ok ((.exit 0,{t:=[(1,sL 1 (.str s::List.map AV.str p)),(2,.gp 100000 0),(6,bA b),(8,.gs 100001 0 acc.length),(9,iA (i:Int))],h:=[(100000,gB (eV h l)),(100001,.arr 25 5 (encVs acc) .own)]}),[aE 9999993],d3 (decide (h.kind=5)=false) []):=kr
theorem call95:callable Tryz.prog 45=true:=kr
theorem call30:callable Tryz.prog 85=true:=kr
theorem encVs_app (a b:List JV):encVs (a++b)=encVs a++encVs b:=by simp only [encVs_map,List.map_append]
theorem encVs_push (acc r:List JV):List.take acc.length (encVs acc)++encVs r=encVs (acc++r):=by rw [<-encVs_len acc,List.take_length,encVs_app]
theorem cntVs_app:∀ a b:List JV,cntVs (a++b)=cntVs a+cntVs b
 | [],b=>by simp [cntVs]
 | x::a,b=>by simp only [List.cons_append,cntVs,cntVs_app a b];omega
theorem cntVs_flat (f:JV->List JV) (hf:∀ x,cntVs (f x)<=cntV x):∀ l:List JV,cntVs (l.flatMap f)<=cntVs l
 | []=>by simp [cntVs]
 | x::l=>by
  have:=hf x;have:=cntVs_flat f hf l
  simp only [List.flatMap_cons,cntVs_app,cntVs];omega
theorem cntVs_take:∀ (l:List JV) (i:Nat),cntVs (l.take i)<=cntVs l
 | [],i=>by simp
 | x::l,0=>by simp [cntVs]
 | x::l,i+1=>by have:=cntVs_take l i;simp only [List.take_succ_cons,cntVs];omega
theorem oneV_cnt (v:JV) (s:List UInt8) (f:JV->List JV) (hf:∀ x,cntVs (f x)<=cntV x):cntVs (oneV v s f)<=cntV v:=by
 unfold oneV
 split
 ·simp [cntVs]
 ·split
  ·rename_i x hx;have:=hf x;have:=cntV_item hx;omega
  ·simp [cntVs]
theorem allV_cnt:∀ (p:List (List UInt8)) (v:JV),cntVs (allV v p)<=cntV v
 | [],v=>by rw [allV];simp [cntVs]
 | s::p,v=>by
  rw [allV]
  split
  ·have:=cntVs_flat (pickV s p) (fun x=>by
    unfold pickV;split
    ·exact oneV_cnt _ _ _ (allV_cnt p)
    ·simp [cntVs]) v.items
   rw [cntV_eq];unfold pickV at this;omega
  ·exact oneV_cnt _ _ _ (allV_cnt p)
theorem pickV_cnt (s:List UInt8) (p:List (List UInt8)) (x:JV):cntVs (pickV s p x)<=cntV x:=by
 unfold pickV;split
 ·exact oneV_cnt _ _ _ (allV_cnt p)
 ·simp [cntVs]
theorem acc_step {l:List JV} {s:List UInt8} {p:List (List UInt8)} {i:Nat} {x:JV} (h:l[i]?=some x):(l.take (i+1)).flatMap (pickV s p)=(l.take i).flatMap (pickV s p)++pickV s p x:=by
 rw [take_snoc h,List.flatMap_append];simp
theorem acc_bd (l:List JV) (s:List UInt8) (p:List (List UInt8)) (i:Nat):((l.take i).flatMap (pickV s p)).length<=cntVs l:=by
 have h1:=cntVs_flat (pickV s p) (pickV_cnt s p) (l.take i)
 have h2:=cntVs_take l i
 have h3:=cntVs_len ((l.take i).flatMap (pickV s p))
 omega
def AllC (W:World) (f:FuncId) (x:JV) (q:List (List UInt8)):Prop:=Pure Tryz.prog W f [encV x,.sl 1 (q.map AV.str) []] (.sl 5 (encVs (allV x q)) [])
section
variable (W:World) (l:List JV) (s:List UInt8) (p:List (List UInt8))
theorem loop95 (hl:cntVs l<=2 ^ 30) (hr:∀ x ∈ l,x.kind=6->AllC W 45 x (s::p)):∀ i:Nat,i<=l.length->LoopC Tryz.prog W [] (nslots Tryz.prog 45) (loopOf Tryz.prog 45 0) (S95 l s p ((l.take i).flatMap (pickV s p)) i) (.exit 0) (E95 (l.flatMap (pickV s p))):=by
 refine loopC_inv (fun i:Nat=>S95 l s p ((l.take i).flatMap (pickV s p)) i) (fun i=>i<=l.length) (fun i=>l.length - i) (by simp) ?_
 intro i h1
 have hlen:=cntVs_len l
 have hws:IntKind.i64.wrap ((i:Int)+1)=((i+1:Nat):Int):=wrap_succ (by omega)
 by_cases hi:i<l.length
 ·left
  obtain ⟨x,hx⟩:=getOf hi
  refine ⟨i+1,by omega,by omega,?_⟩
  have hget:(encVs l)[((i:Int)).toNat]?=some (encV x):=by rw [Int.toNat_natCast];exact encVs_get hx
  have hb0:=acc_bd l s p i
  have hb2:=acc_bd l s p (i+1)
  rw [acc_step hx] at hb2 ⊢
  generalize (l.take i).flatMap (pickV s p)=acc at hb0 hb2
  by_cases hk:x.kind=6
  ·have hpk:=allV_obj (s:=s) (p:=p) hk
   have hc:MutC Tryz.prog W 45 [encV x,.sl 1 ((s::p).map AV.str) []] [] (.ret (.sl 5 (encVs (pickV s p x)) []) []):=by
    rw [<-hpk];exact mut_of_pure (by simp only [cloL,encV_clo,Bool.and_self];rfl) (hr x (List.mem_of_getElem? hx) hk)
   generalize pickV s p x=r at hb2 hc
   have hbr:acc.length+r.length<=2 ^ 30:=by simp only [List.length_append] at hb2;omega
   obtain ⟨h2,l2⟩:=x
   exact body_of_sbodyK mixedz (b95_0 W ⟨0,0,[],[]⟩ l s p h2 l2 acc r i) Fb6_z5 [(100001,100003)] [] Fb6_z1
  ·rw [pickV_not hk,List.append_nil]
   obtain ⟨h2,l2⟩:=x
   exact body_of_sbodyK mixedz (b95_1 W ⟨0,0,[],[]⟩ l s p h2 l2 acc i) Fb6_z5 [] [] Fb6_z1
 ·right
  have hil:i=l.length:=by omega
  subst hil
  rw [List.take_length]
  exact body_of_sbodyK mixedz (b95_2 W ⟨0,0,[],[]⟩ l s p _ l.length) Fb6_z5 [] [] Fb6_z1
end
theorem steps_obj {u x:JV} {s:List UInt8} {p:List (List UInt8)} (h:u.kind=5) (h6:x.kind=6):stepsV x (s::p)<stepsV u (s::p):=by
 unfold stepsV;rw [if_pos h6,if_neg (by omega)];omega
theorem steps_tail {u x:JV} {s:List UInt8} {p:List (List UInt8)}:stepsV x p<stepsV u (s::p):=by
 unfold stepsV;simp only [List.length_cons];split<;>split<;>omega
theorem defLen1 (s:List UInt8) (p:List (List UInt8)):defLen (AV.sl 1 (AV.str s::List.map AV.str p) [])=p.length+1:=by
 show (AV.str s::List.map AV.str p).length=_;simp
theorem drop1 {s:List UInt8} {p:List (List UInt8)}:List.drop ((defLen (AV.sl 1 (AV.str s::List.map AV.str p) []):Int)).toNat (AV.str s::(List.map AV.str p++[]))=[]:=by
 rw [List.append_nil];exact List.drop_length (l:=AV.str s::List.map AV.str p)
theorem take1 {p:List (List UInt8)}:List.take (List.map AV.str p).length (List.map AV.str p++[])=List.map AV.str p:=by rw [List.append_nil,List.take_length]
theorem all95 (W:World):∀ (n:Nat) (u:JV) (q:List (List UInt8)),stepsV u q<n->cntV u<=2 ^ 30->AllC W 45 u q
 | 0,u,q,h,_=>by omega
 | n+1,.mk h l,[],hn,hc=>by
  refine pure_leR ?_ (pure_frz1 (mut_of_sfun mixedz call95 rfl (n95_0 W h l) Fb6_z5) rfl (by rfl))
  rw [allV];exact .refl _
 | n+1,.mk h l,s::p,hn,hcn=>by
  have hcnl:=cntV_len (.mk h l)
  simp only [JV.names,JV.hd] at hcnl
  have hc1:=mut_of_pure (by rfl) (index91 W s)
  unfold AllC
  by_cases hki:h.kind=5/\idxOk s=false
  ·obtain ⟨hk,hx⟩:=hki
   have hb1:(!idxOk s)=true:=by rw [hx];rfl
   have hcl:cntVs l<=2 ^ 30:=by rw [cntV_eq] at hcn;simp only [JV.items] at hcn;omega
   have hlp:=loop95 W l s p hcl (fun x hx6 k6=>all95 W n x (s::p) (by have:=steps_obj (u:=.mk h l) (s:=s) (p:=p) hk k6;omega) (by
    obtain ⟨i,hi⟩:=List.getElem?_of_mem hx6
    have:=cntVs_get hi;omega)) 0 (by omega)
   rw [List.take_zero,List.flatMap_nil] at hlp
   rw [show allV (.mk h l) (s::p)=l.flatMap (pickV s p) from allV_list (v:=.mk h l) hk hx]
   have hm:=mut_of_sfun mixedz call95 rfl (l95_0 W h l s p (idx s) (idxOk s) (l.flatMap (pickV s p))) Fb6_z6
   exact pure_frz1 hm (by rw [encVs_len]) (encVs_clo _)
  ·have ha:=allV_one (v:=.mk h l) (s:=s) (p:=p) hki
   rw [ha]
   have hc2:MutC Tryz.prog W 76 [encV (.mk h l),.str s] [] (.ret (iA ((JV.mk h l).child s)) []):=mut_of_pure (by simp only [cloL,encV_clo];rfl) (child137 W h l s (by omega))
   by_cases hneg:(JV.mk h l).child s<0
   ·rw [oneV,if_pos hneg]
    by_cases hk:h.kind=5
    ·have hx:idxOk s=true:=by cases e:idxOk s with
      | true=>rfl
      | false=>exact absurd ⟨hk,e⟩ hki
     have hb1:(!idxOk s)=false:=by rw [hx];rfl
     exact pure_leR (.nil 5) (pure_of_mut rfl (mut_of_sfun mixedz call95 rfl (z95_1 W h l s p (idx s) ((JV.mk h l).child s) (idxOk s)) Fb6_z6))
    ·exact pure_leR (.nil 5) (pure_of_mut rfl (mut_of_sfun mixedz call95 rfl (z95_3 W h l s p (idx s) ((JV.mk h l).child s) (idxOk s)) Fb6_z6))
   ·obtain ⟨x,hx⟩:=child_get (j:=.mk h l) (s:=s) (by omega)
    rw [oneV,if_neg hneg,hx]
    have ih:=all95 W n x p (by have:=steps_tail (u:=.mk h l) (x:=x) (s:=s) (p:=p);omega) (by have:=cntV_item hx;omega)
    obtain ⟨h2,l2⟩:=x
    have hget:(encVs l)[((JV.mk h l).child s).toNat]?=some (encV (.mk h2 l2)):=encVs_get hx
    have hc3:MutC Tryz.prog W 45 [encV (.mk h2 l2),.sl 1 (List.take (List.map AV.str p).length (List.map AV.str p++[])) (List.drop ((defLen (AV.sl 1 (AV.str s::List.map AV.str p) []):Int)).toNat (AV.str s::(List.map AV.str p++[])))] [] (.ret (.sl 5 (encVs (allV (.mk h2 l2) p)) []) []):=by
     rw [drop1,take1];exact mut_of_pure (by simp only [cloL,encV_clo,Bool.and_self];rfl) ih
    by_cases hk:h.kind=5
    ·have hxx:idxOk s=true:=by cases e:idxOk s with
      | true=>rfl
      | false=>exact absurd ⟨hk,e⟩ hki
     have hb1:(!idxOk s)=false:=by rw [hxx];rfl
     exact pure_of_mut rfl (mut_of_sfun mixedz call95 rfl (p95_2 W h l s p (idx s) ((JV.mk h l).child s) (idxOk s) h2 l2 (allV (.mk h2 l2) p)) Fb6_z6)
    ·exact pure_of_mut rfl (mut_of_sfun mixedz call95 rfl (p95_4 W h l s p (idx s) ((JV.mk h l).child s) (idxOk s) h2 l2 (allV (.mk h2 l2) p)) Fb6_z6)
section
variable (W:World) (h:JH) (l:List JV) (s:List UInt8) (p:List (List UInt8))
theorem loop30 (hl:cntVs l<=2 ^ 30) (hk5:h.kind=5) {b:Bool} (hb:b=false) (hr:∀ x ∈ l,x.kind=6->AllC W 85 x (s::p)):∀ i:Nat,i<=l.length->LoopC Tryz.prog W [] (nslots Tryz.prog 85) (loopOf Tryz.prog 85 0) (S30 h l s p b ((l.take i).flatMap (pickV s p)) i) (.exit 0) (E30 (l.flatMap (pickV s p))):=by
 refine loopC_inv (fun i:Nat=>S30 h l s p b ((l.take i).flatMap (pickV s p)) i) (fun i=>i<=l.length) (fun i=>l.length - i) (by simp) ?_
 intro i h1
 have hlen:=cntVs_len l
 have hb1:(!b)=true:=by rw [hb];rfl
 have hws:IntKind.i64.wrap ((i:Int)+1)=((i+1:Nat):Int):=wrap_succ (by omega)
 by_cases hi:i<l.length
 ·left
  obtain ⟨x,hx⟩:=getOf hi
  refine ⟨i+1,by omega,by omega,?_⟩
  have hget:(encVs l)[((i:Int)).toNat]?=some (encV x):=by rw [Int.toNat_natCast];exact encVs_get hx
  have hb0:=acc_bd l s p i
  have hb2:=acc_bd l s p (i+1)
  rw [acc_step hx] at hb2 ⊢
  generalize (l.take i).flatMap (pickV s p)=acc at hb0 hb2
  by_cases hk:x.kind=6
  ·have hpk:=allV_obj (s:=s) (p:=p) hk
   have hc:MutC Tryz.prog W 85 [encV x,.sl 1 ((s::p).map AV.str) []] [] (.ret (.sl 5 (encVs (pickV s p x)) []) []):=by
    rw [<-hpk];exact mut_of_pure (by simp only [cloL,encV_clo,Bool.and_self];rfl) (hr x (List.mem_of_getElem? hx) hk)
   generalize pickV s p x=r at hb2 hc
   have hbr:acc.length+r.length<=2 ^ 30:=by simp only [List.length_append] at hb2;omega
   obtain ⟨h2,l2⟩:=x
   exact body_of_sbodyK mixedz (b30_0 W h l s p b h2 l2 acc r i) Fb6_z5 [(100001,100002)] [] Fb6_z1
  ·rw [pickV_not hk,List.append_nil]
   obtain ⟨h2,l2⟩:=x
   exact body_of_sbodyK mixedz (b30_1 W h l s p b h2 l2 acc i) Fb6_z5 [] [] Fb6_z1
 ·right
  have hil:i=l.length:=by omega
  subst hil
  rw [List.take_length]
  exact body_of_sbodyK mixedz (b30_2 W h l s p b _ l.length) Fb6_z5 [] [] Fb6_z1
theorem loopN30 {b:Bool} (hki:¬ (h.kind=5/\b=false)):LoopC Tryz.prog W [] (nslots Tryz.prog 85) (loopOf Tryz.prog 85 0) (S30 h l s p b [] 0) (.exit 0) (E30 []):=by
 refine loop_last (by simp) ?_
 by_cases hk:h.kind=5
 ·have hb1:(!b)=false:=by cases b with
   | true=>rfl
   | false=>exact absurd ⟨hk,rfl⟩ hki
  exact body_of_sbodyK mixedz (b30_3 W h l s p b [] 0) Fb6_z5 [] [] Fb6_z1
 ·exact body_of_sbodyK mixedz (b30_4 W h l s p b [] 0) Fb6_z5 [] [] Fb6_z1
end
theorem all30 (W:World):∀ (n:Nat) (u:JV) (q:List (List UInt8)),stepsV u q<n->cntV u<=2 ^ 30->AllC W 85 u q
 | 0,u,q,h,_=>by omega
 | n+1,.mk h l,[],hn,hc=>by
  refine pure_leR ?_ (pure_frz1 (mut_of_sfun mixedz call30 rfl (n30_0 W h l) Fb6_z5) rfl (by rfl))
  rw [allV];exact .refl _
 | n+1,.mk h l,s::p,hn,hcn=>by
  have hcnl:=cntV_len (.mk h l)
  simp only [JV.names,JV.hd] at hcnl
  have hc1:=mut_of_pure (by rfl) (index71 W s)
  have hc2:MutC Tryz.prog W 102 [encV (.mk h l),.str s] [] (.ret (iA ((JV.mk h l).child s)) []):=mut_of_pure (by simp only [cloL,encV_clo];rfl) (place72 W h l s (by omega))
  unfold AllC
  by_cases hneg:(JV.mk h l).child s<0
  ·by_cases hki:h.kind=5/\idxOk s=false
   ·obtain ⟨hk,hx⟩:=hki
    have hcl:cntVs l<=2 ^ 30:=by rw [cntV_eq] at hcn;simp only [JV.items] at hcn;omega
    have hlp:=loop30 W h l s p hcl hk hx (fun x hx6 k6=>all30 W n x (s::p) (by have:=steps_obj (u:=.mk h l) (s:=s) (p:=p) hk k6;omega) (by
     obtain ⟨i,hi⟩:=List.getElem?_of_mem hx6
     have:=cntVs_get hi;omega)) 0 (by omega)
    rw [List.take_zero,List.flatMap_nil] at hlp
    rw [show allV (.mk h l) (s::p)=l.flatMap (pickV s p) from allV_list (v:=.mk h l) hk hx]
    have hm:=mut_of_sfun mixedz call30 rfl (l30_1 W h l s p (idx s) ((JV.mk h l).child s) (idxOk s) (l.flatMap (pickV s p))) Fb6_z6
    exact pure_frz1 hm (by rw [encVs_len]) (encVs_clo _)
   ·rw [allV_one (v:=.mk h l) (s:=s) (p:=p) hki,oneV,if_pos hneg]
    have hlp:=loopN30 W h l s p hki
    have hm:=mut_of_sfun mixedz call30 rfl (l30_1 W h l s p (idx s) ((JV.mk h l).child s) (idxOk s) []) Fb6_z6
    exact pure_frz1 hm rfl (encVs_clo _)
  ·have hki:¬ ((JV.mk h l).kind=5/\idxOk s=false):=fun ⟨a,b⟩=>by have:=child_dead (v:=.mk h l) a b;omega
   rw [allV_one (v:=.mk h l) (s:=s) (p:=p) hki]
   obtain ⟨x,hx⟩:=child_get (j:=.mk h l) (s:=s) (by omega)
   rw [oneV,if_neg hneg,hx]
   have ih:=all30 W n x p (by have:=steps_tail (u:=.mk h l) (x:=x) (s:=s) (p:=p);omega) (by have:=cntV_item hx;omega)
   obtain ⟨h2,l2⟩:=x
   have hget:(encVs l)[((JV.mk h l).child s).toNat]?=some (encV (.mk h2 l2)):=encVs_get hx
   have hc3:MutC Tryz.prog W 85 [encV (.mk h2 l2),.sl 1 (List.take (List.map AV.str p).length (List.map AV.str p++[])) (List.drop ((defLen (AV.sl 1 (AV.str s::List.map AV.str p) []):Int)).toNat (AV.str s::(List.map AV.str p++[])))] [] (.ret (.sl 5 (encVs (allV (.mk h2 l2) p)) []) []):=by
    rw [drop1,take1];exact mut_of_pure (by simp only [cloL,encV_clo,Bool.and_self];rfl) ih
   exact pure_of_mut rfl (mut_of_sfun mixedz call30 rfl (p30_0 W h l s p (idx s) ((JV.mk h l).child s) (idxOk s) h2 l2 (allV (.mk h2 l2) p)) Fb6_z6)
theorem push1 (acc:List JV) (h:JH) (m:List JV):List.take acc.length (encVs acc)++[encV (.mk h m)]=encVs (acc++[.mk h m]):=encVs_push acc [.mk h m]
theorem push2 (acc:List JV) (h:JH) (m:List JV):List.take (acc.length+[encV (.mk h m)].length) (List.take acc.length (encVs acc)++[encV (.mk h m)])++encVs m=encVs (acc++(.mk h m::m)):=by
 rw [push1,show acc.length+[encV (.mk h m)].length=(acc++[JV.mk h m]).length by simp,encVs_push,List.append_assoc];rfl
section
variable (W:World) (l:List JV)
end
end Go.Ac

namespace Go.Ac
open Go Go.Proofs
set_option maxRecDepth 10000
set_option maxHeartbeats 1000000
theorem p79_0 (W:World) (a b:List (List UInt8)):sF W {lp:=true} 32 [.sl 1 (a.map AV.str) [],.sl 1 (b.map AV.str) []] [] 100000 [bt,ee] []=.ok (.ret (bA false) [],[ee],[(!decide ((↑(List.map AV.str a).length:Int)=(↑(List.map AV.str b).length:Int)))=true]):=kr
theorem call79:callable Tryz.prog 32=true:=kr
section
variable (W:World)
end
end Go.Ac

