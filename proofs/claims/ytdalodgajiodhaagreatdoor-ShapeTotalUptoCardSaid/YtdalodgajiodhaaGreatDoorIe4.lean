/- What is proved: contracts of functions of this translation, walked; their plain meaning. No condition beyond those that each theorem names. -/
import Derived.Test.YtdalodgajiodhaaGreatDoorMb4
set_option linter.all false
namespace Go.Ac
open Go Go.Proofs Go.RowKit
set_option maxRecDepth 10000
set_option maxHeartbeats 1000000
namespace De
open Dd
def S10 (h:JH) (l:List JV) (K:List (List (List UInt8)×Bool)) (m:Int) (i:Nat):AS:=⟨[(1,.gp 100000 0),(5,.gp 100001 0),(25,iA m),(26,iA i)],[(100000,.box (encV (.mk h l)) .own),(100001,.box (.agg [.gs 100002 0 K.length]) .own),(100002,.arr 66 2 (kysA K) .own)]⟩
def E10 (K:List (List (List UInt8)×Bool)):AS:=⟨[(5,.gp 100001 0)],[(100001,.box (.agg [.gs 100002 0 K.length]) .own),(100002,.arr 66 2 (kysA K) .own)]⟩
def R10 (e:Int):AS:=⟨[(2,.val (.pointer none)),(3,iA e)],[]⟩
def S11 (h:JH) (l:List JV) (K:List (List (List UInt8)×Bool)) (m:Int) (i:Nat):AS:=⟨[(1,.gp 100000 0),(4,iA m),(5,.gs 100001 0 K.length),(6,iA i)],[(100000,.box (encV (.mk h l)) .own),(100001,.arr 73 2 (rksA K) .own)]⟩
def T11 (h hx:JH) (l lx:List JV) (K:List (List (List UInt8)×Bool)) (p:List (List UInt8)) (m:Int) (i k:Nat):AS:=⟨[(1,.gp 100000 0),(4,iA m),(5,.gs 100001 0 K.length),(6,iA i),(7,.sl 1 (p.map AV.str) []),(10,.gp 100002 0),(11,iA k)],[(100000,.box (encV (.mk h l)) .own),(100001,.arr 73 2 (rksA K) .own),(100002,.box (encV (.mk hx lx)) .own)]⟩
def U11 (h hx:JH) (l lx:List JV) (K:List (List (List UInt8)×Bool)) (p:List (List UInt8)) (m:Int) (i:Nat):AS:=⟨[(1,.gp 100000 0),(4,iA m),(5,.gs 100001 0 K.length),(6,iA i),(7,.sl 1 (p.map AV.str) []),(10,.gp 100002 0)],[(100000,.box (encV (.mk h l)) .own),(100001,.arr 73 2 (rksA K) .own),(100002,.box (encV (.mk hx lx)) .own)]⟩
def E11 (K:List (List (List UInt8)×Bool)):AS:=⟨[(5,.gs 100001 0 K.length)],[(100001,.arr 73 2 (rksA K) .own)]⟩
def R11 (e:Int):AS:=⟨[(2,.val (.slice none 0 0)),(3,iA e)],[]⟩
theorem p10_2 (W:World) (K:List (List (List UInt8)×Bool)) (h:JH) (l:List JV) (m:Int):sF W {lp:=true,ol:=true,fin:=9,tl:=[29,30]} 10 [eV h l] [] 100000 [bf,bf,ee,.loopM [] [(100002,2)] (S10 h l [] m 0) (.exit 0) (E10 K),ee,.fin [] [] (.tup [.gp 100001 0,iA 0]) [(100001,gB (.agg [.gs 100002 0 K.length])),(100002,.arr 66 2 (kysA K) .own)],ee] []=.ok (.ret (.tup [.gp 100001 0,iA 0]) [(100001,gB (.agg [.gs 100002 0 K.length])),(100002,.arr 66 2 (kysA K) .own)],[ee],[MatchK [] [] [] {t:=[(0,.tup [.gp 100001 0,iA 0])],h:=[(100001,gB (.agg [.gs 100002 0 K.length])),(100002,.arr 66 2 (kysA K) .own)]} {t:=[(0,.tup [.gp 100001 0,iA 0])],h:=[(100001,gB (.agg [.gs 100002 0 K.length])),(100002,.arr 66 2 (kysA K) .own)]},LZ W [] 10 0 (S10 h l [] m 0) (.exit 0) (E10 K),MatchK [] [] [(100002,2)] {t:=[(1,.gp 100000 0),(5,.gp 100001 0),(25,iA (if (↑(encVs l).length:Int)<(↑(List.map AV.str h.names).length:Int) then (↑(encVs l).length:Int) else (↑(List.map AV.str h.names).length:Int))),(26,iA 0)],h:=[(100000,gB (eV h l)),(100001,gB (.agg [.val (Value.slice none 0 0)]))]} (S10 h l [] m 0),decide (8<if (↑(encVs l).length:Int)<(↑(List.map AV.str h.names).length:Int) then (↑(encVs l).length:Int) else (↑(List.map AV.str h.names).length:Int))=false,(!decide (h.kind=6))=false]):=kr
theorem q10_0 (W:World) (h:JH) (l:List JV):sF W {lp:=true,ol:=true,tl:=[29,30]} 10 [eV h l] [] 100000 [bt,ee] []=.ok (.ret (.tup [.val (Value.pointer none),iA 60]) [],[ee],[(!decide (h.kind=6))=true]):=kr
theorem q10_1 (W:World) (h:JH) (l:List JV):sF W {lp:=true,ol:=true,tl:=[29,30]} 10 [eV h l] [] 100000 [bf,bt,ee] []=.ok (.ret (.tup [.val (Value.pointer none),iA 43]) [],[ee],[decide (8<if (↑(encVs l).length:Int)<(↑(List.map AV.str h.names).length:Int) then (↑(encVs l).length:Int) else (↑(List.map AV.str h.names).length:Int))=true,(!decide (h.kind=6))=false]):=kr
theorem q10_2 (W:World) (h:JH) (l:List JV) (m e:Int):sF W {lp:=true,ol:=true,tl:=[29,30]} 10 [eV h l] [] 100000 [bf,bf,ee,.loopM [] [(100002,2)] (S10 h l [] m 0) .ret (R10 e),ee] []=.ok (.ret (.tup [.val (Value.pointer none),iA e]) [],[ee],[LZ W [] 10 0 (S10 h l [] m 0) .ret (R10 e),MatchK [] [] [(100002,2)] {t:=[(1,.gp 100000 0),(5,.gp 100001 0),(25,iA (if (↑(encVs l).length:Int)<(↑(List.map AV.str h.names).length:Int) then (↑(encVs l).length:Int) else (↑(List.map AV.str h.names).length:Int))),(26,iA 0)],h:=[(100000,gB (eV h l)),(100001,gB (.agg [.val (Value.slice none 0 0)]))]} (S10 h l [] m 0),decide (8<if (↑(encVs l).length:Int)<(↑(List.map AV.str h.names).length:Int) then (↑(encVs l).length:Int) else (↑(List.map AV.str h.names).length:Int))=false,(!decide (h.kind=6))=false]):=kr
theorem p11_2 (W:World) (K:List (List (List UInt8)×Bool)) (h:JH) (l:List JV) (m:Int):sF W {lp:=true,ol:=true,fin:=9,tl:=[33,34,35]} 11 [eV h l] [] 100000 [bf,ee,.lg,ee,cR (iA m) [],bf,ee,.loopM [] [(100001,2)] (S11 h l [] m 0) (.exit 0) (E11 K),ee,.fin [] [] (.tup [.gs 100001 0 K.length,iA 0]) [(100001,.arr 73 2 (rksA K) .own)],ee] []=.ok (.ret (.tup [.gs 100001 0 K.length,iA 0]) [(100001,.arr 73 2 (rksA K) .own)],[ee],[MatchK [] [] [] {t:=[(0,.tup [.gs 100001 0 K.length,iA 0])],h:=[(100001,.arr 73 2 (rksA K) .own)]} {t:=[(0,.tup [.gs 100001 0 K.length,iA 0])],h:=[(100001,.arr 73 2 (rksA K) .own)]},LZ W [] 11 0 (S11 h l [] m 0) (.exit 0) (E11 K),MatchK [] [] [(100001,2)] {t:=[(1,.gp 100000 0),(4,iA m),(5,.val (Value.slice none 0 0)),(6,iA 0)],h:=[(100000,gB (eV h l))]} (S11 h l [] m 0),decide (8<m)=false,MZ W 33 [eV h l] [] (.ret (iA m) []),cloHs [],(!decide (h.kind=6))=false]):=kr
theorem q11_0 (W:World) (h:JH) (l:List JV):sF W {lp:=true,ol:=true,tl:=[33,34,35]} 11 [eV h l] [] 100000 [bt,ee] []=.ok (.ret (.tup [.val (Value.slice none 0 0),iA 60]) [],[ee],[(!decide (h.kind=6))=true]):=kr
theorem q11_1 (W:World) (h:JH) (l:List JV) (m:Int):sF W {lp:=true,ol:=true,tl:=[33,34,35]} 11 [eV h l] [] 100000 [bf,ee,.lg,ee,cR (iA m) [],bt,ee] []=.ok (.ret (.tup [.val (Value.slice none 0 0),iA 43]) [],[ee],[decide (8<m)=true,MZ W 33 [eV h l] [] (.ret (iA m) []),cloHs [],(!decide (h.kind=6))=false]):=kr
theorem q11_2 (W:World) (h:JH) (l:List JV) (m e:Int):sF W {lp:=true,ol:=true,tl:=[33,34,35]} 11 [eV h l] [] 100000 [bf,ee,.lg,ee,cR (iA m) [],bf,ee,.loopM [] [(100001,2)] (S11 h l [] m 0) .ret (R11 e),ee] []=.ok (.ret (.tup [.val (Value.slice none 0 0),iA e]) [],[ee],[LZ W [] 11 0 (S11 h l [] m 0) .ret (R11 e),MatchK [] [] [(100001,2)] {t:=[(1,.gp 100000 0),(4,iA m),(5,.val (Value.slice none 0 0)),(6,iA 0)],h:=[(100000,gB (eV h l))]} (S11 h l [] m 0),decide (8<m)=false,MZ W 33 [eV h l] [] (.ret (iA m) []),cloHs [],(!decide (h.kind=6))=false]):=kr
theorem p33_0 (W:World) (h:JH) (l:List JV):sF W {lp:=true,ol:=true,tl:=[]} 33 [eV h l] [] 100000 [bt,ee] []=.ok (.ret (iA (↑(List.map AV.str h.names).length:Int)) [],[ee],[decide ((↑(List.map AV.str h.names).length:Int)<(↑(encVs l).length:Int))=true]):=kr
theorem p33_1 (W:World) (h:JH) (l:List JV):sF W {lp:=true,ol:=true,tl:=[]} 33 [eV h l] [] 100000 [bf,ee] []=.ok (.ret (iA (↑(encVs l).length:Int)) [],[ee],[decide ((↑(List.map AV.str h.names).length:Int)<(↑(encVs l).length:Int))=false]):=kr
theorem b10_0 (W:World) (K:List (List (List UInt8)×Bool)) (h:JH) (l:List JV) (p:List (List UInt8)) (s:List UInt8) (i:Nat) (m e a:Int):sQ W {lp:=true,ol:=true,tl:=[29,30]} 10 0 [] [1,2,3,5,25,26] (S10 h l K m i) [bt,aE 1,oS (.str s),ee,.lg,ee,cR (.tup [sL 1 (List.map AV.str p),iA e,iA a]) [],bt,ee]=.ok ((.ret,{t:=[(1,.gp 100000 0),(2,.val (Value.pointer none)),(3,iA e),(5,.gp 100001 0),(25,iA m),(26,iA (i:Int))],h:=[(100000,gB (eV h l)),(100001,gB (.agg [.gs 100002 0 K.length])),(100002,.arr 66 2 (kysA K) .own),(100003,gB (sL 1 (List.map AV.str p)))]}),[ee],[(!decide (e=0))=true,MZ W 29 [.str s] [] (.ret (.tup [sL 1 (List.map AV.str p),iA e,iA a]) []),cloHs [],(List.map AV.str h.names)[(i:Int).toNat]?=some (AV.str s),decide ((i:Int)<m)=true]):=kr
theorem b10_1 (W:World) (K:List (List (List UInt8)×Bool)) (h hx:JH) (l lx:List JV) (p:List (List UInt8)) (s:List UInt8) (i:Nat) (m e a:Int):sQ W {lp:=true,ol:=true,tl:=[29,30]} 10 0 [] [1,2,3,5,25,26] (S10 h l K m i) [bt,aE 1,oS (.str s),ee,.lg,ee,cR (.tup [sL 1 (List.map AV.str p),iA e,iA a]) [],bf,aE 1,oS (eV hx lx),bt,bt,bt,bt,bt,bt,ee]=.ok ((.ret,{t:=[(1,.gp 100000 0),(2,.val (Value.pointer none)),(3,iA 60),(5,.gp 100001 0),(25,iA m),(26,iA (i:Int))],h:=[(100000,gB (eV h l)),(100001,gB (.agg [.gs 100002 0 K.length])),(100002,.arr 66 2 (kysA K) .own),(100003,gB (sL 1 (List.map AV.str p))),(100004,gB (eV hx lx))]}),[aE 9999992],d6 ((!decide (hx.kind=3))=true) [(encVs l)[(i:Int).toNat]?=some (eV hx lx),(!decide (e=0))=false,MZ W 29 [.str s] [] (.ret (.tup [sL 1 (List.map AV.str p),iA e,iA a]) []),cloHs [],(List.map AV.str h.names)[(i:Int).toNat]?=some (AV.str s),decide ((i:Int)<m)=true]):=kr
theorem b10_2 (W:World) (K:List (List (List UInt8)×Bool)) (h hx:JH) (l lx:List JV) (p:List (List UInt8)) (s:List UInt8) (i:Nat) (m e a:Int):sQ W {lp:=true,ol:=true,tl:=[29,30]} 10 0 [] [1,2,3,5,25,26] (S10 h l K m i) [bt,aE 1,oS (.str s),ee,.lg,ee,cR (.tup [sL 1 (List.map AV.str p),iA e,iA a]) [],bf,aE 1,oS (eV hx lx),bf,bf,bf,bf,bt,bt,bt,bf,bt,bf,bt,bt,bt,bt,bt,bt,bt,ee]=.ok ((.ret,{t:=[(1,.gp 100000 0),(2,.val (Value.pointer none)),(3,iA 60),(5,.gp 100001 0),(25,iA m),(26,iA (i:Int))],h:=[(100000,gB (eV h l)),(100001,gB (.agg [.gs 100002 0 K.length])),(100002,.arr 66 2 (kysA K) .own),(100003,gB (sL 1 (List.map AV.str p))),(100004,gB (eV hx lx))]}),[aE 9999999],((!decide (hx.int=-1))=true)::(d6 ((!decide (hx.int=-1))=true) (((!decide (hx.kind=3))=false)::((!decide (hx.int=1))=true)::((!decide (hx.kind=3))=false)::(d3 ((!decide (hx.int=1))=true) (d4 ((!decide (hx.kind=3))=false) [(encVs l)[(i:Int).toNat]?=some (eV hx lx),(!decide (e=0))=false,MZ W 29 [.str s] [] (.ret (.tup [sL 1 (List.map AV.str p),iA e,iA a]) []),cloHs [],(List.map AV.str h.names)[(i:Int).toNat]?=some (AV.str s),decide ((i:Int)<m)=true]))))):=kr
theorem b10_3 (W:World) (K:List (List (List UInt8)×Bool)) (h hx:JH) (l lx:List JV) (p:List (List UInt8)) (s:List UInt8) (i:Nat) (b:Bool) (m e a:Int):sQ W {lp:=true,ol:=true,tl:=[29,30]} 10 0 [] [1,2,3,5,25,26] (S10 h l K m i) [bt,aE 1,oS (.str s),ee,.lg,ee,cR (.tup [sL 1 (List.map AV.str p),iA e,iA a]) [],bf,aE 1,oS (eV hx lx),bf,bf,bf,bf,bt,bt,bt,bf,bt,bf,bf,bf,bf,bf,bf,bf,ee,.lg,ee,cR (bA b) [(100002,.arr 66 2 (kysA K) .own),(100003,gB (sL 1 (List.map AV.str p)))],bf,bt,ee]=.ok ((.ret,{t:=[(1,.gp 100000 0),(2,.val (Value.pointer none)),(3,iA 60),(5,.gp 100001 0),(25,iA m),(26,iA (i:Int))],h:=[(100000,gB (eV h l)),(100001,gB (.agg [.gs 100002 0 K.length])),(100002,.arr 66 2 (kysA K) .own),(100003,gB (sL 1 (List.map AV.str p))),(100004,gB (eV hx lx))]}),[ee],(b=true)::((!decide (hx.int=-1))=false)::MZ W 30 [.gs 100002 0 K.length,.fn (Fn.func 31) [] [.gp 100003 0]] [(100002,.arr 66 2 (kysA K) .own),(100003,gB (sL 1 (List.map AV.str p)))] (.ret (bA b) [(100002,.arr 66 2 (kysA K) .own),(100003,gB (sL 1 (List.map AV.str p)))])::cloHs [(100002,.arr 66 2 (kysA K) .own),(100003,gB (sL 1 (List.map AV.str p)))]::(d6 ((!decide (hx.int=-1))=false) (((!decide (hx.kind=3))=false)::((!decide (hx.int=1))=true)::((!decide (hx.kind=3))=false)::(d3 ((!decide (hx.int=1))=true) (d4 ((!decide (hx.kind=3))=false) [(encVs l)[(i:Int).toNat]?=some (eV hx lx),(!decide (e=0))=false,MZ W 29 [.str s] [] (.ret (.tup [sL 1 (List.map AV.str p),iA e,iA a]) []),cloHs [],(List.map AV.str h.names)[(i:Int).toNat]?=some (AV.str s),decide ((i:Int)<m)=true]))))):=kr
theorem b10_4 (W:World) (K:List (List (List UInt8)×Bool)) (h hx:JH) (l lx:List JV) (p:List (List UInt8)) (s:List UInt8) (i:Nat) (b:Bool) (m e a:Int):sQ W {lp:=true,ol:=true,tl:=[29,30]} 10 0 [] [1,2,3,5,25,26] (S10 h l K m i) [bt,aE 1,oS (.str s),ee,.lg,ee,cR (.tup [sL 1 (List.map AV.str p),iA e,iA a]) [],bf,aE 1,oS (eV hx lx),bf,bf,bf,bf,bt,bt,bt,bf,bt,bf,bf,bf,bf,bf,bf,bf,ee,.lg,ee,cR (bA b) [(100002,.arr 66 2 (kysA K) .own),(100003,gB (sL 1 (List.map AV.str p)))],bf,bf,aE 1,.lg,.lg,ee]=.ok ((.normal,{t:=[(1,.gp 100000 0),(5,.gp 100001 0),(25,iA m),(26,iA (IntKind.i64.wrap ((i:Int)+1)))],h:=[(100000,gB (eV h l)),(100001,.box (.gs 100006 0 (K.length+[AV.agg [sL 1 (List.map AV.str p),bA (decide (hx.int<0))]].length)) .own),(100002,.dead),(100003,gB (sL 1 (List.map AV.str p))),(100004,gB (eV hx lx)),(100005,.arr 66 2 [.agg [sL 1 (List.map AV.str p),bA (decide (hx.int<0))]] .own),(100006,.arr 66 2 (List.take K.length (kysA K)++[AV.agg [sL 1 (List.map AV.str p),bA (decide (hx.int<0))]]) .own)]}),[ee],((K.length+[AV.agg [sL 1 (List.map AV.str p),bA (decide (hx.int<0))]].length) * 32<=140737488355328)::((St.own=St.own\/St.own=St.shr/\K.length=(kysA K).length)/\K.length<=(kysA K).length)::(b=false)::((!decide (hx.int=-1))=false)::MZ W 30 [.gs 100002 0 K.length,.fn (Fn.func 31) [] [.gp 100003 0]] [(100002,.arr 66 2 (kysA K) .own),(100003,gB (sL 1 (List.map AV.str p)))] (.ret (bA b) [(100002,.arr 66 2 (kysA K) .own),(100003,gB (sL 1 (List.map AV.str p)))])::cloHs [(100002,.arr 66 2 (kysA K) .own),(100003,gB (sL 1 (List.map AV.str p)))]::(d6 ((!decide (hx.int=-1))=false) (((!decide (hx.kind=3))=false)::((!decide (hx.int=1))=true)::((!decide (hx.kind=3))=false)::(d3 ((!decide (hx.int=1))=true) (d4 ((!decide (hx.kind=3))=false) [(encVs l)[(i:Int).toNat]?=some (eV hx lx),(!decide (e=0))=false,MZ W 29 [.str s] [] (.ret (.tup [sL 1 (List.map AV.str p),iA e,iA a]) []),cloHs [],(List.map AV.str h.names)[(i:Int).toNat]?=some (AV.str s),decide ((i:Int)<m)=true]))))):=kr
theorem b10_5 (W:World) (K:List (List (List UInt8)×Bool)) (h hx:JH) (l lx:List JV) (p:List (List UInt8)) (s:List UInt8) (i:Nat) (b:Bool) (m e a:Int):sQ W {lp:=true,ol:=true,tl:=[29,30]} 10 0 [] [1,2,3,5,25,26] (S10 h l K m i) [bt,aE 1,oS (.str s),ee,.lg,ee,cR (.tup [sL 1 (List.map AV.str p),iA e,iA a]) [],bf,aE 1,oS (eV hx lx),bf,bf,bf,bf,bf,bf,bf,bf,bf,bf,ee,.lg,ee,cR (bA b) [(100002,.arr 66 2 (kysA K) .own),(100003,gB (sL 1 (List.map AV.str p)))],aE 1,bt,ee]=.ok ((.ret,{t:=[(1,.gp 100000 0),(2,.val (Value.pointer none)),(3,iA 60),(5,.gp 100001 0),(25,iA m),(26,iA (i:Int))],h:=[(100000,gB (eV h l)),(100001,gB (.agg [.gs 100002 0 K.length])),(100002,.arr 66 2 (kysA K) .own),(100003,gB (sL 1 (List.map AV.str p))),(100004,gB (eV hx lx))]}),[ee],(b=true)::MZ W 30 [.gs 100002 0 K.length,.fn (Fn.func 31) [] [.gp 100003 0]] [(100002,.arr 66 2 (kysA K) .own),(100003,gB (sL 1 (List.map AV.str p)))] (.ret (bA b) [(100002,.arr 66 2 (kysA K) .own),(100003,gB (sL 1 (List.map AV.str p)))])::cloHs [(100002,.arr 66 2 (kysA K) .own),(100003,gB (sL 1 (List.map AV.str p)))]::((!decide (hx.kind=3))=false)::((!decide (hx.int=1))=false)::((!decide (hx.kind=3))=false)::(d3 ((!decide (hx.int=1))=false) (d4 ((!decide (hx.kind=3))=false) [(encVs l)[(i:Int).toNat]?=some (eV hx lx),(!decide (e=0))=false,MZ W 29 [.str s] [] (.ret (.tup [sL 1 (List.map AV.str p),iA e,iA a]) []),cloHs [],(List.map AV.str h.names)[(i:Int).toNat]?=some (AV.str s),decide ((i:Int)<m)=true]))):=kr
theorem b10_6 (W:World) (K:List (List (List UInt8)×Bool)) (h hx:JH) (l lx:List JV) (p:List (List UInt8)) (s:List UInt8) (i:Nat) (b:Bool) (m e a:Int):sQ W {lp:=true,ol:=true,tl:=[29,30]} 10 0 [] [1,2,3,5,25,26] (S10 h l K m i) [bt,aE 1,oS (.str s),ee,.lg,ee,cR (.tup [sL 1 (List.map AV.str p),iA e,iA a]) [],bf,aE 1,oS (eV hx lx),bf,bf,bf,bf,bf,bf,bf,bf,bf,bf,ee,.lg,ee,cR (bA b) [(100002,.arr 66 2 (kysA K) .own),(100003,gB (sL 1 (List.map AV.str p)))],aE 1,bf,aE 1,.lg,.lg,ee]=.ok ((.normal,{t:=[(1,.gp 100000 0),(5,.gp 100001 0),(25,iA m),(26,iA (IntKind.i64.wrap ((i:Int)+1)))],h:=[(100000,gB (eV h l)),(100001,.box (.gs 100006 0 (K.length+[AV.agg [sL 1 (List.map AV.str p),bA (decide (hx.int<0))]].length)) .own),(100002,.dead),(100003,gB (sL 1 (List.map AV.str p))),(100004,gB (eV hx lx)),(100005,.arr 66 2 [.agg [sL 1 (List.map AV.str p),bA (decide (hx.int<0))]] .own),(100006,.arr 66 2 (List.take K.length (kysA K)++[AV.agg [sL 1 (List.map AV.str p),bA (decide (hx.int<0))]]) .own)]}),[ee],((K.length+[AV.agg [sL 1 (List.map AV.str p),bA (decide (hx.int<0))]].length) * 32<=140737488355328)::((St.own=St.own\/St.own=St.shr/\K.length=(kysA K).length)/\K.length<=(kysA K).length)::(b=false)::MZ W 30 [.gs 100002 0 K.length,.fn (Fn.func 31) [] [.gp 100003 0]] [(100002,.arr 66 2 (kysA K) .own),(100003,gB (sL 1 (List.map AV.str p)))] (.ret (bA b) [(100002,.arr 66 2 (kysA K) .own),(100003,gB (sL 1 (List.map AV.str p)))])::cloHs [(100002,.arr 66 2 (kysA K) .own),(100003,gB (sL 1 (List.map AV.str p)))]::((!decide (hx.kind=3))=false)::((!decide (hx.int=1))=false)::((!decide (hx.kind=3))=false)::(d3 ((!decide (hx.int=1))=false) (d4 ((!decide (hx.kind=3))=false) [(encVs l)[(i:Int).toNat]?=some (eV hx lx),(!decide (e=0))=false,MZ W 29 [.str s] [] (.ret (.tup [sL 1 (List.map AV.str p),iA e,iA a]) []),cloHs [],(List.map AV.str h.names)[(i:Int).toNat]?=some (AV.str s),decide ((i:Int)<m)=true]))):=kr
theorem b10_7 (W:World) (K:List (List (List UInt8)×Bool)) (h:JH) (l:List JV) (i:Nat) (m:Int):sQ W {lp:=true,ol:=true,tl:=[29,30]} 10 0 [] [1,2,3,5,25,26] (S10 h l K m i) [bf,ee]=.ok ((.exit 0,{t:=[(1,.gp 100000 0),(5,.gp 100001 0),(25,iA m),(26,iA (i:Int))],h:=[(100000,gB (eV h l)),(100001,gB (.agg [.gs 100002 0 K.length])),(100002,.arr 66 2 (kysA K) .own)]}),[ee],[decide ((i:Int)<m)=false]):=kr
theorem b11i_0 (W:World) (K:List (List (List UInt8)×Bool)) (h hx:JH) (l lx:List JV) (p q2:List (List UInt8)) (i k:Nat) (b:Bool) (m z2:Int):sQ W {lp:=true,ol:=true,tl:=[34,35]} 11 1 [] [1,2,3,4,5,6,7,10,11] (T11 h hx l lx K p m i k) [bt,.lg,oS (.agg [sL 1 (List.map AV.str q2),iA z2]),ee,.lg,ee,cR (bA b) [],bt,ee]=.ok ((.ret,{t:=[(1,.gp 100000 0),(2,.val (Value.slice none 0 0)),(3,iA 60),(4,iA m),(5,.gs 100001 0 K.length),(6,iA (i:Int)),(7,sL 1 (List.map AV.str p)),(10,.gp 100002 0),(11,iA (k:Int))],h:=[(100000,gB (eV h l)),(100001,.arr 73 2 (rksA K) .own),(100002,gB (eV hx lx))]}),[ee],[b=true,MZ W 35 [sL 1 (List.map AV.str q2),sL 1 (List.map AV.str p)] [] (.ret (bA b) []),cloHs [],(rksA K)[0+(k:Int).toNat]?=some (AV.agg [sL 1 (List.map AV.str q2),iA z2]),0<=(k:Int)/\(k:Int)<(K.length:Int),decide ((k:Int)<(K.length:Int))=true]):=kr
theorem b11i_1 (W:World) (K:List (List (List UInt8)×Bool)) (h hx:JH) (l lx:List JV) (p q2:List (List UInt8)) (i k:Nat) (b:Bool) (m z2:Int):sQ W {lp:=true,ol:=true,tl:=[34,35]} 11 1 [] [1,2,3,4,5,6,7,10,11] (T11 h hx l lx K p m i k) [bt,.lg,oS (.agg [sL 1 (List.map AV.str q2),iA z2]),ee,.lg,ee,cR (bA b) [],bf,ee]=.ok ((.normal,{t:=[(1,.gp 100000 0),(4,iA m),(5,.gs 100001 0 K.length),(6,iA (i:Int)),(7,sL 1 (List.map AV.str p)),(10,.gp 100002 0),(11,iA (IntKind.i64.wrap ((k:Int)+1)))],h:=[(100000,gB (eV h l)),(100001,.arr 73 2 (rksA K) .own),(100002,gB (eV hx lx))]}),[ee],[b=false,MZ W 35 [sL 1 (List.map AV.str q2),sL 1 (List.map AV.str p)] [] (.ret (bA b) []),cloHs [],(rksA K)[0+(k:Int).toNat]?=some (AV.agg [sL 1 (List.map AV.str q2),iA z2]),0<=(k:Int)/\(k:Int)<(K.length:Int),decide ((k:Int)<(K.length:Int))=true]):=kr
theorem b11i_2 (W:World) (K:List (List (List UInt8)×Bool)) (h hx:JH) (l lx:List JV) (p:List (List UInt8)) (i k:Nat) (m:Int):sQ W {lp:=true,ol:=true,tl:=[34,35]} 11 1 [] [1,2,3,4,5,6,7,10,11] (T11 h hx l lx K p m i k) [bf,ee]=.ok ((.exit 2,{t:=[(1,.gp 100000 0),(4,iA m),(5,.gs 100001 0 K.length),(6,iA (i:Int)),(7,sL 1 (List.map AV.str p)),(10,.gp 100002 0),(11,iA (k:Int))],h:=[(100000,gB (eV h l)),(100001,.arr 73 2 (rksA K) .own),(100002,gB (eV hx lx))]}),[ee],[decide ((k:Int)<(K.length:Int))=false]):=kr
theorem b11n_0 (W:World) (K:List (List (List UInt8)×Bool)) (h:JH) (l:List JV) (p:List (List UInt8)) (s:List UInt8) (i:Nat) (m e a:Int):sQ W {lp:=true,ol:=true,tl:=[34,35]} 11 0 [] [1,2,3,4,5,6] (S11 h l K m i) [bt,aE 1,oS (.str s),ee,.lg,ee,cR (.tup [sL 1 (List.map AV.str p),iA e,iA a]) [],bt,ee]=.ok ((.ret,{t:=[(1,.gp 100000 0),(2,.val (Value.slice none 0 0)),(3,iA 20),(4,iA m),(5,.gs 100001 0 K.length),(6,iA (i:Int))],h:=[(100000,gB (eV h l)),(100001,.arr 73 2 (rksA K) .own)]}),[ee],[(!decide (e=0))=true,MZ W 34 [.str s] [] (.ret (.tup [sL 1 (List.map AV.str p),iA e,iA a]) []),cloHs [],(List.map AV.str h.names)[(i:Int).toNat]?=some (AV.str s),decide ((i:Int)<m)=true]):=kr
theorem b11n_1 (W:World) (K:List (List (List UInt8)×Bool)) (h hx:JH) (l lx:List JV) (p:List (List UInt8)) (s:List UInt8) (i:Nat) (m e a:Int):sQ W {lp:=true,ol:=true,tl:=[34,35]} 11 0 [] [1,2,3,4,5,6] (S11 h l K m i) [bt,aE 1,oS (.str s),ee,.lg,ee,cR (.tup [sL 1 (List.map AV.str p),iA e,iA a]) [],bf,aE 1,oS (eV hx lx),bt,bt,bt,bt,bt,bt,ee]=.ok ((.ret,{t:=[(1,.gp 100000 0),(2,.val (Value.slice none 0 0)),(3,iA 60),(4,iA m),(5,.gs 100001 0 K.length),(6,iA (i:Int))],h:=[(100000,gB (eV h l)),(100001,.arr 73 2 (rksA K) .own),(100002,gB (eV hx lx))]}),[aE 9999999],d6 ((!decide (hx.kind=3))=true) [(encVs l)[(i:Int).toNat]?=some (eV hx lx),(!decide (e=0))=false,MZ W 34 [.str s] [] (.ret (.tup [sL 1 (List.map AV.str p),iA e,iA a]) []),cloHs [],(List.map AV.str h.names)[(i:Int).toNat]?=some (AV.str s),decide ((i:Int)<m)=true]):=kr
theorem b11n_2 (W:World) (K:List (List (List UInt8)×Bool)) (h hx:JH) (l lx:List JV) (p:List (List UInt8)) (s:List UInt8) (i:Nat) (m e a:Int):sQ W {lp:=true,ol:=true,tl:=[34,35]} 11 0 [] [1,2,3,4,5,6] (S11 h l K m i) [bt,aE 1,oS (.str s),ee,.lg,ee,cR (.tup [sL 1 (List.map AV.str p),iA e,iA a]) [],bf,aE 1,oS (eV hx lx),bf,bf,bf,bf,bt,bt,bt,bf,bt,bf,bt,ee]=.ok ((.ret,{t:=[(1,.gp 100000 0),(2,.val (Value.slice none 0 0)),(3,iA 60),(4,iA m),(5,.gs 100001 0 K.length),(6,iA (i:Int))],h:=[(100000,gB (eV h l)),(100001,.arr 73 2 (rksA K) .own),(100002,gB (eV hx lx))]}),[ee],((!decide (hx.int=-1))=true)::((!decide (hx.kind=3))=false)::((!decide (hx.int=1))=true)::((!decide (hx.kind=3))=false)::(d3 ((!decide (hx.int=1))=true) (d4 ((!decide (hx.kind=3))=false) [(encVs l)[(i:Int).toNat]?=some (eV hx lx),(!decide (e=0))=false,MZ W 34 [.str s] [] (.ret (.tup [sL 1 (List.map AV.str p),iA e,iA a]) []),cloHs [],(List.map AV.str h.names)[(i:Int).toNat]?=some (AV.str s),decide ((i:Int)<m)=true]))):=kr
theorem b11n_3 (W:World) (K:List (List (List UInt8)×Bool)) (h hx:JH) (l lx:List JV) (p:List (List UInt8)) (s:List UInt8) (i:Nat) (m e a:Int):sQ W {lp:=true,ol:=true,tl:=[34,35]} 11 0 [] [1,2,3,4,5,6] (S11 h l K m i) [bt,aE 1,oS (.str s),ee,.lg,ee,cR (.tup [sL 1 (List.map AV.str p),iA e,iA a]) [],bf,aE 1,oS (eV hx lx),bf,bf,bf,bf,bt,bt,bt,bf,bt,bf,bf,ee,.loopM [] [] (T11 h hx l lx K p m i 0) (.exit 2) (U11 h hx l lx K p m i),aE 1,.lg,.lg,ee]=.ok ((.normal,{t:=[(1,.gp 100000 0),(4,iA m),(5,.gs 100004 0 (K.length+[AV.agg [sL 1 (List.map AV.str p),iA hx.int]].length)),(6,iA (IntKind.i64.wrap ((i:Int)+1)))],h:=[(100000,gB (eV h l)),(100001,.dead),(100002,gB (eV hx lx)),(100003,.arr 73 2 [.agg [sL 1 (List.map AV.str p),iA hx.int]] .own),(100004,.arr 73 2 (List.take K.length (rksA K)++[AV.agg [sL 1 (List.map AV.str p),iA hx.int]]) .own)]}),[ee],((K.length+[AV.agg [sL 1 (List.map AV.str p),iA hx.int]].length) * 32<=140737488355328)::((St.own=St.own\/St.own=St.shr/\K.length=(rksA K).length)/\K.length<=(rksA K).length)::LZ W [] 11 1 (T11 h hx l lx K p m i 0) (.exit 2) (U11 h hx l lx K p m i)::MatchK [] [] [] {t:=[(1,.gp 100000 0),(4,iA m),(5,.gs 100001 0 K.length),(6,iA (i:Int)),(7,sL 1 (List.map AV.str p)),(10,.gp 100002 0),(11,iA 0)],h:=[(100000,gB (eV h l)),(100001,.arr 73 2 (rksA K) .own),(100002,gB (eV hx lx))]} (T11 h hx l lx K p m i 0)::((!decide (hx.int=-1))=false)::((!decide (hx.kind=3))=false)::((!decide (hx.int=1))=true)::((!decide (hx.kind=3))=false)::(d3 ((!decide (hx.int=1))=true) (d4 ((!decide (hx.kind=3))=false) [(encVs l)[(i:Int).toNat]?=some (eV hx lx),(!decide (e=0))=false,MZ W 34 [.str s] [] (.ret (.tup [sL 1 (List.map AV.str p),iA e,iA a]) []),cloHs [],(List.map AV.str h.names)[(i:Int).toNat]?=some (AV.str s),decide ((i:Int)<m)=true]))):=kr
theorem b11n_4 (W:World) (K:List (List (List UInt8)×Bool)) (h hx:JH) (l lx:List JV) (p:List (List UInt8)) (s:List UInt8) (i:Nat) (m e a:Int):sQ W {lp:=true,ol:=true,tl:=[34,35]} 11 0 [] [1,2,3,4,5,6] (S11 h l K m i) [bt,aE 1,oS (.str s),ee,.lg,ee,cR (.tup [sL 1 (List.map AV.str p),iA e,iA a]) [],bf,aE 1,oS (eV hx lx),bf,bf,bf,bf,bf,bf,bf,bf,bf,bf,ee,.loopM [] [] (T11 h hx l lx K p m i 0) (.exit 2) (U11 h hx l lx K p m i),aE 1,.lg,.lg,ee]=.ok ((.normal,{t:=[(1,.gp 100000 0),(4,iA m),(5,.gs 100004 0 (K.length+[AV.agg [sL 1 (List.map AV.str p),iA hx.int]].length)),(6,iA (IntKind.i64.wrap ((i:Int)+1)))],h:=[(100000,gB (eV h l)),(100001,.dead),(100002,gB (eV hx lx)),(100003,.arr 73 2 [.agg [sL 1 (List.map AV.str p),iA hx.int]] .own),(100004,.arr 73 2 (List.take K.length (rksA K)++[AV.agg [sL 1 (List.map AV.str p),iA hx.int]]) .own)]}),[ee],((K.length+[AV.agg [sL 1 (List.map AV.str p),iA hx.int]].length) * 32<=140737488355328)::((St.own=St.own\/St.own=St.shr/\K.length=(rksA K).length)/\K.length<=(rksA K).length)::LZ W [] 11 1 (T11 h hx l lx K p m i 0) (.exit 2) (U11 h hx l lx K p m i)::MatchK [] [] [] {t:=[(1,.gp 100000 0),(4,iA m),(5,.gs 100001 0 K.length),(6,iA (i:Int)),(7,sL 1 (List.map AV.str p)),(10,.gp 100002 0),(11,iA 0)],h:=[(100000,gB (eV h l)),(100001,.arr 73 2 (rksA K) .own),(100002,gB (eV hx lx))]} (T11 h hx l lx K p m i 0)::((!decide (hx.kind=3))=false)::((!decide (hx.int=1))=false)::((!decide (hx.kind=3))=false)::(d3 ((!decide (hx.int=1))=false) (d4 ((!decide (hx.kind=3))=false) [(encVs l)[(i:Int).toNat]?=some (eV hx lx),(!decide (e=0))=false,MZ W 34 [.str s] [] (.ret (.tup [sL 1 (List.map AV.str p),iA e,iA a]) []),cloHs [],(List.map AV.str h.names)[(i:Int).toNat]?=some (AV.str s),decide ((i:Int)<m)=true]))):=kr
theorem b11n_5 (W:World) (K:List (List (List UInt8)×Bool)) (h:JH) (l:List JV) (i:Nat) (m:Int):sQ W {lp:=true,ol:=true,tl:=[34,35]} 11 0 [] [1,2,3,4,5,6] (S11 h l K m i) [bf,ee]=.ok ((.exit 0,{t:=[(1,.gp 100000 0),(4,iA m),(5,.gs 100001 0 K.length),(6,iA (i:Int))],h:=[(100000,gB (eV h l)),(100001,.arr 73 2 (rksA K) .own)]}),[ee],[decide ((i:Int)<m)=false]):=kr
theorem b11r_3 (W:World) (K:List (List (List UInt8)×Bool)) (h hx:JH) (l lx:List JV) (p:List (List UInt8)) (s:List UInt8) (i:Nat) (m e a:Int):sQ W {lp:=true,ol:=true,tl:=[34,35]} 11 0 [] [1,2,3,4,5,6] (S11 h l K m i) [bt,aE 1,oS (.str s),ee,.lg,ee,cR (.tup [sL 1 (List.map AV.str p),iA e,iA a]) [],bf,aE 1,oS (eV hx lx),bf,bf,bf,bf,bt,bt,bt,bf,bt,bf,bf,ee,.loopM [] [] (T11 h hx l lx K p m i 0) .ret (R11 60),ee]=.ok ((.ret,{t:=[(2,.val (Value.slice none 0 0)),(3,iA 60)],h:=[]}),[ee],LZ W [] 11 1 (T11 h hx l lx K p m i 0) .ret (R11 60)::MatchK [] [] [] {t:=[(1,.gp 100000 0),(4,iA m),(5,.gs 100001 0 K.length),(6,iA (i:Int)),(7,sL 1 (List.map AV.str p)),(10,.gp 100002 0),(11,iA 0)],h:=[(100000,gB (eV h l)),(100001,.arr 73 2 (rksA K) .own),(100002,gB (eV hx lx))]} (T11 h hx l lx K p m i 0)::((!decide (hx.int=-1))=false)::((!decide (hx.kind=3))=false)::((!decide (hx.int=1))=true)::((!decide (hx.kind=3))=false)::(d3 ((!decide (hx.int=1))=true) (d4 ((!decide (hx.kind=3))=false) [(encVs l)[(i:Int).toNat]?=some (eV hx lx),(!decide (e=0))=false,MZ W 34 [.str s] [] (.ret (.tup [sL 1 (List.map AV.str p),iA e,iA a]) []),cloHs [],(List.map AV.str h.names)[(i:Int).toNat]?=some (AV.str s),decide ((i:Int)<m)=true]))):=kr
theorem b11r_4 (W:World) (K:List (List (List UInt8)×Bool)) (h hx:JH) (l lx:List JV) (p:List (List UInt8)) (s:List UInt8) (i:Nat) (m e a:Int):sQ W {lp:=true,ol:=true,tl:=[34,35]} 11 0 [] [1,2,3,4,5,6] (S11 h l K m i) [bt,aE 1,oS (.str s),ee,.lg,ee,cR (.tup [sL 1 (List.map AV.str p),iA e,iA a]) [],bf,aE 1,oS (eV hx lx),bf,bf,bf,bf,bf,bf,bf,bf,bf,bf,ee,.loopM [] [] (T11 h hx l lx K p m i 0) .ret (R11 60),ee]=.ok ((.ret,{t:=[(2,.val (Value.slice none 0 0)),(3,iA 60)],h:=[]}),[ee],LZ W [] 11 1 (T11 h hx l lx K p m i 0) .ret (R11 60)::MatchK [] [] [] {t:=[(1,.gp 100000 0),(4,iA m),(5,.gs 100001 0 K.length),(6,iA (i:Int)),(7,sL 1 (List.map AV.str p)),(10,.gp 100002 0),(11,iA 0)],h:=[(100000,gB (eV h l)),(100001,.arr 73 2 (rksA K) .own),(100002,gB (eV hx lx))]} (T11 h hx l lx K p m i 0)::((!decide (hx.kind=3))=false)::((!decide (hx.int=1))=false)::((!decide (hx.kind=3))=false)::(d3 ((!decide (hx.int=1))=false) (d4 ((!decide (hx.kind=3))=false) [(encVs l)[(i:Int).toNat]?=some (eV hx lx),(!decide (e=0))=false,MZ W 34 [.str s] [] (.ret (.tup [sL 1 (List.map AV.str p),iA e,iA a]) []),cloHs [],(List.map AV.str h.names)[(i:Int).toNat]?=some (AV.str s),decide ((i:Int)<m)=true]))):=kr
theorem zlK {φ ph x y} (h:LeP φ ph x y:=by first|exact .eq rfl rfl|exact .nil rfl|exact .nilS|exact .same rfl (encV_clo _)|exact .same rfl rfl|exact .same (by rw [hws];rfl) rfl|exact .same (by rw [hm]<;>rfl) rfl|exact .eq (congrArg (AV.gs _ 0) hgl) rfl):LeP φ ph x y:=h
theorem zpK {φ ph x y} (h:LeP φ ph x y:=by first|exact zlK|(refine .aggL ?_;repeat' (first|exact LePL.nil|refine LePL.cons ?_ ?_));all_goals exact zlK):LeP φ ph x y:=h
theorem ztK {p:Prop} (h:p:=by and_intros<;>first|exact trivial|exact zpK):p:=h
theorem zhK {p:Prop} (h:p:=by and_intros<;>first|exact trivial|exact gOK_ph' rfl (by decide) (by first|rfl|(simp [kysA,rksA];done))|exact gOK_eq rfl rfl rfl|exact gOK_arr rfl rfl rfl (kys_clo _)|exact gOK_arr rfl rfl rfl (rks_clo _)|exact gOK_arr rfl rfl hset (kys_clo _)|exact gOK_arr rfl rfl hset (rks_clo _)|(refine gOK_box rfl rfl rfl ?_;exact zpK)):p:=h
theorem zvK {p:Prop} (h:p:=by and_intros<;>first|rfl|exact trivial|exact allN_cloL (kys_clo _)|exact allN_cloL (rks_clo _)|exact allN_clo zb|exact allN_cloL zb):p:=h
theorem Ig_z1 {kp f ph σ σ'} (h:MatchK kp f ph σ σ':=by exact ⟨by rfl,(by simp only [zA,S10,E10,R10,S11,T11,U11,E11,R11,clP,tOK,List.map_cons,List.map_nil,and_true]<;>exact ztK),(by simp only [zA,S10,E10,R10,S11,T11,U11,E11,R11,clP,hOK,List.map_cons,List.map_nil,and_true]<;>exact zhK),(by simp only [zA,S10,E10,R10,S11,T11,U11,E11,R11,clP,liveT,List.map_cons,List.map_nil,and_true]<;>exact zvK),(by simp only [zA,S10,E10,R10,S11,T11,U11,E11,R11,clP,liveH,List.map_cons,List.map_nil,and_true]<;>exact zvK)⟩):MatchK kp f ph σ σ':=h
theorem Ig_z2 {cs} (h:Holds cs:=by simp only [Holds,cloHs,and_true]<;>and_intros<;>first|assumption|exact encVs_clo _|exact encV_clo _|exact kys_clo _|exact rks_clo _|exact cloL_str _|exact decide_eq_true (by omega)|exact decide_eq_false (by omega)|omega|exact trivial|exact .inl trivial|(constructor<;>omega)|exact Ig_z1):Holds cs:=h
section
variable (W:World)
theorem call62:callable Tryz.prog 62=true:=kr
theorem call35:callable Tryz.prog 35=true:=kr
theorem call32:callable Tryz.prog 32=true:=kr
theorem call31:callable Tryz.prog 31=true:=kr
theorem call30:callable Tryz.prog 30=true:=kr
theorem call60:callable Tryz.prog 60=true:=kr
theorem call33:callable Tryz.prog 33=true:=kr
theorem call10:callable Tryz.prog 10=true:=kr
theorem call11:callable Tryz.prog 11=true:=kr
theorem drop_eq {a b:List (List UInt8)} {i:Nat} {x y:List UInt8} (hx:a[i]?=some x) (hy:b[i]?=some y):a.drop i=b.drop i ↔ x=y/\a.drop (i+1)=b.drop (i+1):=by
 obtain ⟨h1,e1⟩:=List.getElem?_eq_some_iff.1 hx
 obtain ⟨h2,e2⟩:=List.getElem?_eq_some_iff.1 hy
 rw [List.drop_eq_getElem_cons h1,List.drop_eq_getElem_cons h2,e1,e2]
 exact ⟨fun h=>by injection h with p q;exact ⟨p,q⟩,fun h=>by rw [h.1,h.2]⟩
theorem loop62 (a b:List (List UInt8)) (hab:a.length=b.length) (ha:a.length<2 ^ 62):∀ (q i:Nat),a.length - i=q->i<=a.length->(a.drop i=b.drop i/\LoopC Tryz.prog W [] (nslots Tryz.prog 62) (loopOf Tryz.prog 62 0) (S62 a b i) (.exit 0) E0e)\/(a.drop i ≠ b.drop i/\LoopC Tryz.prog W [] (nslots Tryz.prog 62) (loopOf Tryz.prog 62 0) (S62 a b i) .ret (R62 false)):=by
 intro q
 induction q with
 | zero =>
  intro i hq hi
  have e:decide ((i:Int)<((List.map AV.str a).length:Int))=false:=by rw [List.length_map];exact decide_eq_false (by omega)
  exact .inl ⟨by rw [List.drop_of_length_le (l:=a) (by omega),List.drop_of_length_le (l:=b) (by omega)],loop_last (by simp) (body_of_sbodyK mixedz (b62_3 W a b i) If_z2 [] [] If_z1)⟩
 | succ q ih =>
  intro i hq hi
  obtain ⟨x,hx⟩:=getOf (l:=a) (i:=i) (by omega)
  obtain ⟨y,hy⟩:=getOf (l:=b) (i:=i) (by omega)
  have e:decide ((i:Int)<((List.map AV.str a).length:Int))=true:=by rw [List.length_map];exact decide_eq_true (by omega)
  have e2:decide ((i:Int)<((List.map AV.str b).length:Int))=true:=by rw [List.length_map];exact decide_eq_true (by omega)
  have hget:(List.map AV.str a)[((i:Int)).toNat]?=some (AV.str x):=by rw [Int.toNat_natCast];exact strs_get hx
  have hget2:(List.map AV.str b)[((i:Int)).toNat]?=some (AV.str y):=by rw [Int.toNat_natCast];exact strs_get hy
  have hws:IntKind.i64.wrap ((i:Int)+1)=((i+1:Nat):Int):=wrap_succ (by omega)
  rw [ne_eq,drop_eq hx hy]
  by_cases h:x=y
  ·have c:(!decide (x=y))=false:=by rw [decide_eq_true h];rfl
   rcases ih (i+1) (by omega) (by omega) with ⟨g1,g2⟩|⟨g1,g2⟩
   ·exact .inl ⟨⟨h,g1⟩,loop_next (body_of_sbodyK mixedz (b62_1 W a b x y i) If_z2 [] [] (σ3:=S62 a b (i+1)) If_z1) g2⟩
   ·exact .inr ⟨fun q=>g1 q.2,loop_next (body_of_sbodyK mixedz (b62_1 W a b x y i) If_z2 [] [] (σ3:=S62 a b (i+1)) If_z1) g2⟩
  ·have c:(!decide (x=y))=true:=by rw [decide_eq_false h];rfl
   exact .inr ⟨fun q=>h q.1,loop_last (by simp) (body_of_sbodyK mixedz (b62_0 W a b x y i) If_z2 [] [] If_z1)⟩
theorem texts35 (a b:List (List UInt8)) (ha:a.length<2 ^ 62):Pure Tryz.prog W 35 [.sl 1 (a.map AV.str) [],.sl 1 (b.map AV.str) []] (bA (decide (a=b))):=by
 by_cases hab:a.length=b.length
 ·have e:decide (((List.map AV.str a).length:Int)=((List.map AV.str b).length:Int))=true:=by rw [List.length_map,List.length_map];exact decide_eq_true (by omega)
  have h62:MutC Tryz.prog W 62 [.sl 1 (a.map AV.str) [],.sl 1 (b.map AV.str) []] [] (.ret (bA (decide (a=b))) []):=by
   rcases loop62 W a b hab ha a.length 0 (by omega) (by omega) with ⟨g,hlp⟩|⟨g,hlp⟩
   ·rw [show decide (a=b)=true from decide_eq_true (by simpa using g)]
    exact mut_of_sfun mixedz call62 rfl (p62_0 W a b) If_z2
   ·rw [show decide (a=b)=false from decide_eq_false (by simpa using g)]
    exact mut_of_sfun mixedz call62 rfl (q62_0 W a b) If_z2
  exact pure_of_mut rfl (mut_of_sfun mixedz call35 rfl (p35_0 W a b _) If_z2)
 ·have e:decide (((List.map AV.str a).length:Int)=((List.map AV.str b).length:Int))=false:=by rw [List.length_map,List.length_map];exact decide_eq_false (by omega)
  rw [show decide (a=b)=false from decide_eq_false fun h=>hab (by rw [h])]
  exact pure_of_mut rfl (mut_of_sfun mixedz call35 rfl (p35_1 W a b) If_z2)
theorem loop32 (a b:List (List UInt8)) (hab:a.length=b.length) (ha:a.length<2 ^ 62):∀ (q i:Nat),a.length - i=q->i<=a.length->(a.drop i=b.drop i/\LoopC Tryz.prog W [] (nslots Tryz.prog 32) (loopOf Tryz.prog 32 0) (S32 a b i) (.exit 0) E0e)\/(a.drop i ≠ b.drop i/\LoopC Tryz.prog W [] (nslots Tryz.prog 32) (loopOf Tryz.prog 32 0) (S32 a b i) .ret (R62 false)):=by
 intro q
 induction q with
 | zero =>
  intro i hq hi
  have e:decide ((i:Int)<((List.map AV.str a).length:Int))=false:=by rw [List.length_map];exact decide_eq_false (by omega)
  exact .inl ⟨by rw [List.drop_of_length_le (l:=a) (by omega),List.drop_of_length_le (l:=b) (by omega)],loop_last (by simp) (body_of_sbodyK mixedz (b32_2 W a b i) If_z2 [] [] If_z1)⟩
 | succ q ih =>
  intro i hq hi
  obtain ⟨x,hx⟩:=getOf (l:=a) (i:=i) (by omega)
  obtain ⟨y,hy⟩:=getOf (l:=b) (i:=i) (by omega)
  have e:decide ((i:Int)<((List.map AV.str a).length:Int))=true:=by rw [List.length_map];exact decide_eq_true (by omega)
  have hget:(List.map AV.str a)[((i:Int)).toNat]?=some (AV.str x):=by rw [Int.toNat_natCast];exact strs_get hx
  have hget2:(List.map AV.str b)[((i:Int)).toNat]?=some (AV.str y):=by rw [Int.toNat_natCast];exact strs_get hy
  have hws:IntKind.i64.wrap ((i:Int)+1)=((i+1:Nat):Int):=wrap_succ (by omega)
  rw [ne_eq,drop_eq hx hy]
  by_cases h:x=y
  ·have c:(!decide (x=y))=false:=by rw [decide_eq_true h];rfl
   rcases ih (i+1) (by omega) (by omega) with ⟨g1,g2⟩|⟨g1,g2⟩
   ·exact .inl ⟨⟨h,g1⟩,loop_next (body_of_sbodyK mixedz (b32_1 W a b x y i) If_z2 [] [] (σ3:=S32 a b (i+1)) If_z1) g2⟩
   ·exact .inr ⟨fun q=>g1 q.2,loop_next (body_of_sbodyK mixedz (b32_1 W a b x y i) If_z2 [] [] (σ3:=S32 a b (i+1)) If_z1) g2⟩
  ·have c:(!decide (x=y))=true:=by rw [decide_eq_false h];rfl
   exact .inr ⟨fun q=>h q.1,loop_last (by simp) (body_of_sbodyK mixedz (b32_0 W a b x y i) If_z2 [] [] If_z1)⟩
theorem equal32 (a b:List (List UInt8)) (ha:a.length<2 ^ 62):Pure Tryz.prog W 32 [.sl 1 (a.map AV.str) [],.sl 1 (b.map AV.str) []] (bA (decide (a=b))):=by
 by_cases hab:a.length=b.length
 ·have e:(!decide (((List.map AV.str a).length:Int)=((List.map AV.str b).length:Int)))=false:=by rw [List.length_map,List.length_map,decide_eq_true (by omega)];rfl
  rcases loop32 W a b hab ha a.length 0 (by omega) (by omega) with ⟨g,hlp⟩|⟨g,hlp⟩
  ·rw [show decide (a=b)=true from decide_eq_true (by simpa using g)]
   exact pure_of_mut rfl (mut_of_sfun mixedz call32 rfl (p32_1 W a b) If_z2)
  ·rw [show decide (a=b)=false from decide_eq_false (by simpa using g)]
   exact pure_of_mut rfl (mut_of_sfun mixedz call32 rfl (q32_1 W a b) If_z2)
 ·have e:(!decide (((List.map AV.str a).length:Int)=((List.map AV.str b).length:Int)))=true:=by rw [List.length_map,List.length_map,decide_eq_false (by omega)];rfl
  rw [show decide (a=b)=false from decide_eq_false fun h=>hab (by rw [h])]
  exact pure_of_mut rfl (mut_of_sfun mixedz call32 rfl (p32_0 W a b) If_z2)
theorem fn31 (k:List (List UInt8)×Bool) (p:List (List UInt8)) (hk:k.1.length<2 ^ 62):Pure Tryz.prog W 31 [keyA k,.ip (.sl 1 (p.map AV.str) []) 0] (bA (decide (k.1=p))):=by
 have h32:MutC Tryz.prog W 32 [.sl 1 (k.1.map AV.str) [],.sl 1 (p.map AV.str) []] [] (.ret (bA (decide (k.1=p))) []):=mut_of_pure (by simp only [cloL,AV.clo,cloL_str,Bool.and_self]) (equal32 W k.1 p hk)
 obtain ⟨q2,d⟩:=k
 simp only at h32 ⊢
 generalize decide (q2=p)=b at *
 exact pure_of_mut rfl (mut_of_sfun mixedz call31 rfl (p31_0 W q2 p b d) If_z2)
def hasK (K:List (List (List UInt8)×Bool)) (p:List (List UInt8)):Bool:=K.any fun k=>decide (k.1=p)
theorem has_drop {K:List (List (List UInt8)×Bool)} {i:Nat} {k:List (List UInt8)×Bool} (h:K[i]?=some k) (p:List (List UInt8)):hasK (K.drop i) p=(decide (k.1=p) || hasK (K.drop (i+1)) p):=by
 obtain ⟨hi,e⟩:=List.getElem?_eq_some_iff.1 h
 rw [List.drop_eq_getElem_cons hi,e];rfl
theorem loop60 (K:List (List (List UInt8)×Bool)) (p:List (List UInt8)) (hK:K.length<=2 ^ 40) (hp:∀ k ∈ K,k.1.length<2 ^ 62):∀ (q i:Nat),K.length - i=q->i<=K.length →
 (hasK (K.drop i) p=false/\LoopC Tryz.prog W [] (nslots Tryz.prog 60) (loopOf Tryz.prog 60 0) (S60 K p i) (.exit 0) E0e)\/(hasK (K.drop i) p=true/\∃ n:Nat,LoopC Tryz.prog W [] (nslots Tryz.prog 60) (loopOf Tryz.prog 60 0) (S60 K p i) .ret ⟨[(4,iA n)],[]⟩):=by
 have hkl:=kys_len K
 intro q
 induction q with
 | zero =>
  intro i hq hi
  exact .inl ⟨by rw [List.drop_of_length_le (by omega)];rfl,loop_last (by simp) (body_of_sbodyK mixedz (b60_2 W K p i) If_z2 [] [] If_z1)⟩
 | succ q ih =>
  intro i hq hi
  obtain ⟨k,hk⟩:=getOf (l:=K) (i:=i) (by omega)
  have hget:=kys_get hk
  have hws:IntKind.i64.wrap ((i:Int)+1)=((i+1:Nat):Int):=wrap_succ (by omega)
  have h31:MutC Tryz.prog W 31 [keyA k,.ip (.sl 1 (p.map AV.str) []) 0] [] (.ret (bA (decide (k.1=p))) []):=mut_of_pure (by unfold keyA;simp only [cloL,AV.clo,cloL_str,Bool.and_self,Bool.true_and]<;>rfl) (fn31 W k p (hp k (List.mem_of_getElem? hk)))
  rw [has_drop hk]
  obtain ⟨q2,d⟩:=k
  simp only at h31 ⊢
  cases hb:decide (q2=p) with
  | true =>
   rw [hb] at h31
   exact .inr ⟨rfl,i,loop_last (by simp) (body_of_sbodyK mixedz (b60_0 W K p q2 i true d) (by clear ih;exact If_z2) [] [] (by clear ih;exact If_z1))⟩
  | false =>
   rw [hb] at h31
   have st:∀ e σ,LoopC Tryz.prog W [] (nslots Tryz.prog 60) (loopOf Tryz.prog 60 0) (S60 K p (i+1)) e σ->LoopC Tryz.prog W [] (nslots Tryz.prog 60) (loopOf Tryz.prog 60 0) (S60 K p i) e σ:=fun e σ n1 =>
    loop_next (body_of_sbodyK mixedz (b60_1 W K p q2 i false d) (by clear ih n1;exact If_z2) [] [] (σ3:=S60 K p (i+1)) (by clear ih n1;exact If_z1)) n1
   rcases ih (i+1) (by omega) (by omega) with ⟨g1,g2⟩|⟨g1,n,g2⟩
   ·exact .inl ⟨g1,st _ _ g2⟩
   ·exact .inr ⟨g1,n,st _ _ g2⟩
theorem contains30 (K:List (List (List UInt8)×Bool)) (p:List (List UInt8)) (hK:K.length<=2 ^ 40) (hp:∀ k ∈ K,k.1.length<2 ^ 62):Pure Tryz.prog W 30 [.sl 2 (kysA K) [],clP p] (bA (hasK K p)):=by
 rcases loop60 W K p hK hp K.length 0 (by omega) (by omega) with ⟨g,hlp⟩|⟨g,n,hlp⟩
 ·rw [show hasK K p=false by simpa using g]
  have h60:=mut_of_sfun mixedz call60 rfl (p60_0 W K p) If_z2
  exact pure_of_mut rfl (mut_of_sfun mixedz call30 rfl (p30_0 W K p (-1)) If_z2)
 ·rw [show hasK K p=true by simpa using g]
  have h60:=mut_of_sfun mixedz call60 rfl (q60_0 W K p n) If_z2
  have e:decide ((0:Int)<=(n:Int))=true:=decide_eq_true (by omega)
  have h30:=pure_of_mut rfl (mut_of_sfun mixedz call30 rfl (p30_0 W K p n) If_z2)
  rw [e] at h30
  exact h30
theorem cont30M (K:List (List (List UInt8)×Bool)) (p:List (List UInt8)) (hK:K.length<=2 ^ 40) (hp:∀ k ∈ K,k.1.length<2 ^ 62):MutC Tryz.prog W 30 [.gs 100002 0 K.length,.fn (.func 31) [] [.gp 100003 0]] [(100002,.arr 66 2 (kysA K) .own),(100003,.box (.sl 1 (p.map AV.str) []) .own)] (.ret (bA (hasK K p)) [(100002,.arr 66 2 (kysA K) .own),(100003,.box (.sl 1 (p.map AV.str) []) .own)]):=by
 have hlo:=kys_len K
 have e:clL [(100002,.arr 66 2 (kysA K) .own),(100003,.box (.sl 1 (p.map AV.str) []) .own)] [.gs 100002 0 K.length,.fn (.func 31) [] [.gp 100003 0]]=[.sl 2 (kysA K) [],clP p]:=by
  have e1:List.take K.length (kysA K)=kysA K:=by rw [<-hlo,List.take_length]
  simp [clL,clA,lk,hlo,e1,clP]
 refine mut_of_pureFlat ?_ rfl (by rw [e];unfold clP;simp only [cloL,kys_clo,cloL_str,AV.clo,Bool.and_self]) rfl (by rw [e];exact contains30 W K p hK hp)
 intro q hq
 simp only [List.mem_cons,List.not_mem_nil,or_false] at hq
 rcases hq with rfl|rfl
 ·exact ⟨by simp [hg],kys_clo _⟩
 ·exact ⟨by simp [hg],by show (AV.sl 1 (p.map AV.str) []).clo=true;simp only [AV.clo,cloL_str,cloL,Bool.and_self]⟩
def prsG (N:List (List UInt8)) (l:List JV):Nat->Nat->List (List (List UInt8)×Bool)->Except Int (List (List (List UInt8)×Bool))
 | 0,_,K=>.ok K
 | q+1,i,K=>match N[i]?,l[i]? with
  | some s,some x =>
   if parseE s ≠ 0 then .error (parseE s)
   else if x.kind ≠ 3\/(x.int ≠ 1/\x.int ≠ -1)\/hasK K (parseP s)=true then .error 60
   else prsG N l q (i+1) (K++[(parseP s,decide (x.int<0))])
  | _,_=>.error 60
def prsV (v:JV):Except Int (List (List (List UInt8)×Bool)) :=
 if v.kind ≠ 6 then .error 60 else if 8<min v.names.length v.items.length then .error 43 else prsG v.names v.items (min v.names.length v.items.length) 0 []
theorem parseP_len (s:List UInt8):(parseP s).length<=s.length+1:=by
 unfold parseP
 split
 ·rw [splitD_len];have:=countByte_le s 46;omega
 ·simp
theorem parseE_or (s:List UInt8):parseE s=0\/parseE s=20:=by unfold parseE;split<;>simp
theorem kys_app (K:List (List (List UInt8)×Bool)) (k:List (List UInt8)×Bool):kysA K++[keyA k]=kysA (K++[k]):=by unfold kysA;rw [List.map_append];rfl
theorem rks_app (K:List (List (List UInt8)×Bool)) (k:List (List UInt8)×Bool):rksA K++[rkyA k]=rksA (K++[k]):=by unfold rksA;rw [List.map_append];rfl
theorem hK_snoc {K:List (List (List UInt8)×Bool)} {k:List (List UInt8)×Bool} (h:∀ k ∈ K,k.1.length<2 ^ 62) (hk:k.1.length<2 ^ 62):∀ k' ∈ K++[k],k'.1.length<2 ^ 62:=by
 intro k' h'
 rcases List.mem_append.1 h' with h'|h'
 ·exact h k' h'
 ·rw [List.mem_singleton] at h';subst h';exact hk
theorem loop10 (h:JH) (l:List JV) (m:Nat) (hm8:m<=8) (hmn:m<=h.names.length) (hml:m<=l.length) (hN:∀ s ∈ h.names,s.length<=2 ^ 30):∀ (q i:Nat) (K:List (List (List UInt8)×Bool)),i+q=m->K.length=i->(∀ k ∈ K,k.1.length<2 ^ 62) →
 (∃ K2,prsG h.names l q i K=.ok K2/\K2.length=m/\(∀ k ∈ K2,k.1.length<2 ^ 62)/\LoopC Tryz.prog W [] (nslots Tryz.prog 10) (loopOf Tryz.prog 10 0) (S10 h l K m i) (.exit 0) (E10 K2))\/(∃ e,prsG h.names l q i K=.error e/\e ≠ 0/\LoopC Tryz.prog W [] (nslots Tryz.prog 10) (loopOf Tryz.prog 10 0) (S10 h l K m i) .ret (R10 e)):=by
 intro q
 induction q with
 | zero =>
  intro i K hq hi hK
  exact .inl ⟨K,rfl,by omega,hK,loop_last (by simp) (body_of_sbodyK mixedz (b10_7 W K h l i m) (by clear hN hK;exact Ig_z2) [] [] (by clear hN hK;exact Ig_z1))⟩
 | succ q ih =>
  intro i K hq hi hK
  obtain ⟨s,hs⟩:=getOf (l:=h.names) (i:=i) (by omega)
  obtain ⟨x,hx⟩:=getOf (l:=l) (i:=i) (by omega)
  have hsl:=hN s (List.mem_of_getElem? hs)
  have hgs:(List.map AV.str h.names)[((i:Int)).toNat]?=some (AV.str s):=by rw [Int.toNat_natCast];exact strs_get hs
  have hgx:(encVs l)[((i:Int)).toNat]?=some (encV x):=by rw [Int.toNat_natCast];exact encVs_get hx
  have hws:IntKind.i64.wrap ((i:Int)+1)=((i+1:Nat):Int):=wrap_succ (by omega)
  have hP:MutC Tryz.prog W 29 [.str s] [] (.ret (parseAV s) []):=mut_of_pure (by rfl) (Parse76 W s hsl)
  unfold parseAV at hP
  have hpl:(parseP s).length<2 ^ 62:=by have:=parseP_len s;omega
  have hC:=cont30M W K (parseP s) (by omega) hK
  have hkl:=kys_len K
  have nx:=ih (i+1) (K++[(parseP s,decide (x.int<0))]) (by omega) (by rw [List.length_append];simp;omega) (hK_snoc hK hpl)
  rw [prsG,hs,hx]
  simp only
  by_cases he:parseE s=0
  case neg =>
   have c1:(!decide (parseE s=0))=true:=by rw [decide_eq_false he];rfl
   rw [if_pos he]
   generalize parseE s=e at *
   generalize parseP s=p at *
   clear nx ih hN hK
   exact .inr ⟨e,rfl,he,loop_last (by simp) (body_of_sbodyK mixedz (b10_0 W K h l p s i m e _) Ig_z2 [] [] Ig_z1)⟩
  have c1:(!decide (parseE s=0))=false:=by rw [decide_eq_true he];rfl
  rw [if_neg (by simp [he])]
  generalize hpe:parseE s=e at *
  generalize hpp:parseP s=p at *
  generalize hpa:parseA s=a at *
  obtain ⟨hx',lx⟩:=x
  by_cases hk:hx'.kind=3
  case neg =>
   have c2:(!decide (hx'.kind=3))=true:=by rw [decide_eq_false hk];rfl
   rw [if_pos (.inl hk)]
   clear nx ih hN hK
   exact .inr ⟨60,rfl,by decide,loop_last (by simp) (body_of_sbodyK mixedz (b10_1 W K h hx' l lx p s i m e a) Ig_z2 [] [] Ig_z1)⟩
  have c2:(!decide (hx'.kind=3))=false:=by rw [decide_eq_true hk];rfl
  have fin:∀ (b:Bool),hasK K p=b->(hb1:(hx'.int=1\/hx'.int=-1))->(b=true->LoopC Tryz.prog W [] (nslots Tryz.prog 10) (loopOf Tryz.prog 10 0) (S10 h l K m i) .ret (R10 60))->(b=false->∀ e σ,LoopC Tryz.prog W [] (nslots Tryz.prog 10) (loopOf Tryz.prog 10 0) (S10 h l (K++[(p,decide (hx'.int<0))]) m (i+1)) e σ->LoopC Tryz.prog W [] (nslots Tryz.prog 10) (loopOf Tryz.prog 10 0) (S10 h l K m i) e σ) →
   (∃ K2,(if hx'.kind ≠ 3\/hx'.int ≠ 1/\hx'.int ≠ -1\/hasK K p=true then Except.error 60 else prsG h.names l q (i+1) (K++[(p,decide (hx'.int<0))]))=.ok K2/\K2.length=m/\(∀ k ∈ K2,k.1.length<2 ^ 62)/\LoopC Tryz.prog W [] (nslots Tryz.prog 10) (loopOf Tryz.prog 10 0) (S10 h l K m i) (.exit 0) (E10 K2))\/(∃ e,(if hx'.kind ≠ 3\/hx'.int ≠ 1/\hx'.int ≠ -1\/hasK K p=true then Except.error 60 else prsG h.names l q (i+1) (K++[(p,decide (hx'.int<0))]))=.error e/\e ≠ 0/\LoopC Tryz.prog W [] (nslots Tryz.prog 10) (loopOf Tryz.prog 10 0) (S10 h l K m i) .ret (R10 e)):=by
   intro b hb hi1 ht hf
   cases b with
   | true =>
    rw [if_pos (.inr (.inr hb))]
    exact .inr ⟨60,rfl,by decide,ht rfl⟩
   | false =>
    rw [if_neg (fun h1=>h1.elim (fun h=>h hk) (fun h=>h.elim (fun h=>hi1.elim h.1 h.2) (fun h=>by rw [hb] at h;cases h)))]
    rcases nx with ⟨K2,n1,n2,n3,n4⟩|⟨e,n1,n2,n3⟩
    ·exact .inl ⟨K2,n1,n2,n3,hf rfl _ _ n4⟩
    ·exact .inr ⟨e,n1,n2,hf rfl _ _ n3⟩
  by_cases h1:hx'.int=1
  ·have c3:(!decide (hx'.int=1))=false:=by rw [decide_eq_true h1];rfl
   refine fin _ rfl (.inl h1) (fun hb=>?_) (fun hb e2 σ2 n1=>?_)
   ·clear nx ih hN hK fin
    rw [hb] at hC
    exact loop_last (by simp) (body_of_sbodyK mixedz (b10_5 W K h hx' l lx p s i true m e a) Ig_z2 [] [] Ig_z1)
   ·rw [hb] at hC
    have hset:List.take K.length (kysA K)++[AV.agg [.sl 1 (p.map AV.str) [],bA (decide (hx'.int<0))]]=kysA (K++[(p,decide (hx'.int<0))]):=by rw [<-hkl,List.take_length];exact kys_app K (p,_)
    have hgl:K.length+[AV.agg [.sl 1 (p.map AV.str) [],bA (decide (hx'.int<0))]].length=(K++[(p,decide (hx'.int<0))]).length:=by rw [List.length_append];rfl
    have hg2:(K.length+[AV.agg [sL 1 (List.map AV.str p),bA (decide (hx'.int<0))]].length) * 32<=140737488355328:=by show (K.length+1) * 32<=_;omega
    exact loop_next (body_of_sbodyKW 100001 mixedz (b10_6 W K h hx' l lx p s i false m e a) (by clear nx ih hN hK fin n1;exact Ig_z2) [(100002,100006)] [] (σ3:=S10 h l (K++[(p,decide (hx'.int<0))]) m (i+1)) (by clear nx ih hN hK fin n1;exact Ig_z1)) n1
  have c3:(!decide (hx'.int=1))=true:=by rw [decide_eq_false h1];rfl
  by_cases h2:hx'.int=-1
  ·have c4:(!decide (hx'.int=-1))=false:=by rw [decide_eq_true h2];rfl
   refine fin _ rfl (.inr h2) (fun hb=>?_) (fun hb e2 σ2 n1=>?_)
   ·clear nx ih hN hK fin
    rw [hb] at hC
    exact loop_last (by simp) (body_of_sbodyK mixedz (b10_3 W K h hx' l lx p s i true m e a) Ig_z2 [] [] Ig_z1)
   ·rw [hb] at hC
    have hset:List.take K.length (kysA K)++[AV.agg [.sl 1 (p.map AV.str) [],bA (decide (hx'.int<0))]]=kysA (K++[(p,decide (hx'.int<0))]):=by rw [<-hkl,List.take_length];exact kys_app K (p,_)
    have hgl:K.length+[AV.agg [.sl 1 (p.map AV.str) [],bA (decide (hx'.int<0))]].length=(K++[(p,decide (hx'.int<0))]).length:=by rw [List.length_append];rfl
    have hg2:(K.length+[AV.agg [sL 1 (List.map AV.str p),bA (decide (hx'.int<0))]].length) * 32<=140737488355328:=by show (K.length+1) * 32<=_;omega
    exact loop_next (body_of_sbodyKW 100001 mixedz (b10_4 W K h hx' l lx p s i false m e a) (by clear nx ih hN hK fin n1;exact Ig_z2) [(100002,100006)] [] (σ3:=S10 h l (K++[(p,decide (hx'.int<0))]) m (i+1)) (by clear nx ih hN hK fin n1;exact Ig_z1)) n1
  ·have c4:(!decide (hx'.int=-1))=true:=by rw [decide_eq_false h2];rfl
   rw [if_pos (.inr (.inl ⟨h1,h2⟩))]
   clear nx ih hN hK fin
   exact .inr ⟨60,rfl,by decide,loop_last (by simp) (body_of_sbodyK mixedz (b10_2 W K h hx' l lx p s i m e a) Ig_z2 [] [] Ig_z1)⟩
theorem min_if (a b:Nat):(if (b:Int)<(a:Int) then (b:Int) else (a:Int))=((min a b:Nat):Int):=by split<;>omega
def resS (r:Except Int (List (List (List UInt8)×Bool))):AV:=match r with|.ok K=>.tup [sortA K,iA 0]|.error e=>.tup [.val (.pointer none),iA e]
def resR (r:Except Int (List (List (List UInt8)×Bool))):AV:=match r with|.ok K=>.tup [.sl 2 (rksA K) [],iA 0]|.error e=>.tup [.val (.slice none 0 0),iA e]
theorem prs_pos {v:JV} {e:Int} (h:prsV v=.error e):e ≠ 0:=by
 have key:∀ (N:List (List UInt8)) (l:List JV) (q i:Nat) (K),prsG N l q i K=.error e->e ≠ 0:=by
  intro N l q
  induction q with
  | zero=>intro i K h;cases h
  | succ q ih =>
   intro i K h
   rw [prsG] at h
   split at h
   ·split at h
    ·rename_i h1;cases h;exact h1
    ·split at h
     ·cases h;decide
     ·exact ih _ _ h
   ·cases h;decide
 unfold prsV at h
 split at h
 ·cases h;decide
 ·split at h
  ·cases h;decide
  ·exact key _ _ _ _ _ h
theorem prs_len {v:JV} {K:List (List (List UInt8)×Bool)} (h:prsV v=.ok K):K.length<=8:=by
 have key:∀ (N:List (List UInt8)) (l:List JV) (q i:Nat) (K2),prsG N l q i K2=.ok K->K.length=K2.length+q:=by
  intro N l q
  induction q with
  | zero=>intro i K2 h;cases h;rfl
  | succ q ih =>
   intro i K2 h
   rw [prsG] at h
   split at h
   ·split at h
    ·cases h
    ·split at h
     ·cases h
     ·have:=ih _ _ h;rw [List.length_append] at this;simp at this;omega
   ·cases h
 unfold prsV at h
 split at h
 ·cases h
 ·split at h
  ·cases h
  ·have:=key _ _ _ _ _ h;simp at this;omega
theorem parse10 (v:JV) (hN:∀ s ∈ v.names,s.length<=2 ^ 30):Pure Tryz.prog W 10 [encV v] (resS (prsV v)):=by
 obtain ⟨h,l⟩:=v
 have hN':∀ s ∈ h.names,s.length<=2 ^ 30:=hN
 have hlen:=encVs_len l
 have hmin:=min_if (List.map AV.str h.names).length (encVs l).length
 rw [List.length_map,hlen] at hmin
 unfold prsV
 show Pure _ _ _ _ (resS (if h.kind ≠ 6 then .error 60 else if 8<min h.names.length l.length then .error 43 else prsG h.names l (min h.names.length l.length) 0 []))
 by_cases hk:h.kind=6
 case neg =>
  have c1:(!decide (h.kind=6))=true:=by rw [decide_eq_false hk];rfl
  rw [if_pos hk]
  exact pure_of_mut rfl (mut_of_sfun mixedz call10 rfl (q10_0 W h l) Ig_z2)
 have c1:(!decide (h.kind=6))=false:=by rw [decide_eq_true hk];rfl
 rw [if_neg (by simp [hk])]
 have hm:(if ((encVs l).length:Int)<((List.map AV.str h.names).length:Int) then ((encVs l).length:Int) else ((List.map AV.str h.names).length:Int))=((min h.names.length l.length:Nat):Int):=by rw [List.length_map,hlen];exact hmin
 by_cases h8:8<min h.names.length l.length
 ·have c2:decide ((8:Int)<(if ((encVs l).length:Int)<((List.map AV.str h.names).length:Int) then ((encVs l).length:Int) else ((List.map AV.str h.names).length:Int)))=true:=by rw [hm];exact decide_eq_true (by omega)
  rw [if_pos h8]
  exact pure_of_mut rfl (mut_of_sfun mixedz call10 rfl (q10_1 W h l) Ig_z2)
 have c2:decide ((8:Int)<(if ((encVs l).length:Int)<((List.map AV.str h.names).length:Int) then ((encVs l).length:Int) else ((List.map AV.str h.names).length:Int)))=false:=by rw [hm];exact decide_eq_false (by omega)
 rw [if_neg h8]
 have hlp:=loop10 W h l (min h.names.length l.length) (by omega) (by omega) (by omega) hN' (min h.names.length l.length) 0 [] (by omega) rfl (by simp)
 rcases hlp with ⟨K2,n1,n2,n3,n4⟩|⟨e,n1,n2,n3⟩
 ·rw [n1]
  show Pure _ _ _ _ (.tup [sortA K2,iA 0])
  have hkl:=kys_len K2
  clear hN hN'
  generalize ((min h.names.length l.length:Nat):Int)=m at *
  have hM:=mut_of_sfun mixedz call10 rfl (p10_2 W K2 h l m) Ig_z2
  have h2:=mut_frz [(100002,.arr 66 2 (kysA K2) .own)] hM (by intro p hp;simp only [List.mem_singleton] at hp;subst hp;exact ⟨by simp [hg],kys_clo _⟩)
  have ecl:clA [(100002,.arr 66 2 (kysA K2) .own)] (.gs 100002 0 K2.length)=.sl 2 (kysA K2) []:=by
   have e1:List.take K2.length (kysA K2)=kysA K2:=by rw [<-hkl,List.take_length]
   simp [clA,lk,hkl,e1]
  have eh:frzL1 [(100002,.arr 66 2 (kysA K2) .own)] [(100001,gB (.agg [.gs 100002 0 K2.length])),(100002,.arr 66 2 (kysA K2) .own)]=[(100001,gB (.agg [.sl 2 (kysA K2) []])),(100002,.arr 66 2 (kysA K2) .frz)]:=by
   have e1:List.take K2.length (kysA K2)=kysA K2:=by rw [<-hkl,List.take_length]
   simp [frzL1,frzG1,lk,clGE,frzGE,clA,clL,hkl,e1]
  rw [eh] at h2
  refine pure_frz [(100001,gB (.agg [.sl 2 (kysA K2) []]))] h2 (by intro p hp;simp only [List.mem_singleton] at hp;subst hp;exact ⟨by simp [hg],by show AV.clo _=true;simp only [AV.clo,cloL,kys_clo,Bool.and_self]⟩) ?_ (by show AV.clo _=true;unfold sortA;simp only [AV.clo,cloL,kys_clo,Bool.and_self]<;>rfl)
  (simp [clA,clL,lk,sortA]<;>rfl)
 ·rw [n1]
  show Pure _ _ _ _ (.tup [.val (.pointer none),iA e])
  clear hN hN'
  generalize ((min h.names.length l.length:Nat):Int)=m at *
  exact pure_of_mut rfl (mut_of_sfun mixedz call10 rfl (q10_2 W h l m e) Ig_z2)
theorem members33 (v:JV):Pure Tryz.prog W 33 [encV v] (iA (min v.names.length v.items.length:Nat)):=by
 obtain ⟨h,l⟩:=v
 have hlen:=encVs_len l
 show Pure _ _ _ _ (iA (min h.names.length l.length:Nat))
 by_cases hc:h.names.length<l.length
 ·have c1:decide (((List.map AV.str h.names).length:Int)<((encVs l).length:Int))=true:=by rw [List.length_map,hlen];exact decide_eq_true (by omega)
  have e:((min h.names.length l.length:Nat):Int)=((List.map AV.str h.names).length:Int):=by rw [List.length_map];omega
  rw [e]
  exact pure_of_mut rfl (mut_of_sfun mixedz call33 rfl (p33_0 W h l) Ig_z2)
 ·have c1:decide (((List.map AV.str h.names).length:Int)<((encVs l).length:Int))=false:=by rw [List.length_map,hlen];exact decide_eq_false (by omega)
  have e:((min h.names.length l.length:Nat):Int)=((encVs l).length:Int):=by rw [hlen];omega
  rw [e]
  exact pure_of_mut rfl (mut_of_sfun mixedz call33 rfl (p33_1 W h l) Ig_z2)
theorem loop11i (h hx:JH) (l lx:List JV) (K:List (List (List UInt8)×Bool)) (p:List (List UInt8)) (m:Int) (i:Nat) (hK:K.length<=2 ^ 40) (hp:∀ k ∈ K,k.1.length<2 ^ 62):∀ (q k:Nat),K.length - k=q->k<=K.length →
 (hasK (K.drop k) p=false/\LoopC Tryz.prog W [] (nslots Tryz.prog 11) (loopOf Tryz.prog 11 1) (T11 h hx l lx K p m i k) (.exit 2) (U11 h hx l lx K p m i))\/(hasK (K.drop k) p=true/\LoopC Tryz.prog W [] (nslots Tryz.prog 11) (loopOf Tryz.prog 11 1) (T11 h hx l lx K p m i k) .ret (R11 60)):=by
 have hkl:=rks_len K
 intro q
 induction q with
 | zero =>
  intro k hq hk
  exact .inl ⟨by rw [List.drop_of_length_le (by omega)];rfl,loop_last (by simp) (body_of_sbodyK mixedz (b11i_2 W K h hx l lx p i k m) (by clear hp;exact Ig_z2) [] [] (by clear hp;exact Ig_z1))⟩
 | succ q ih =>
  intro k hq hk
  obtain ⟨y,hy⟩:=getOf (l:=K) (i:=k) (by omega)
  have hget0:=rks_get hy
  have hget:(rksA K)[0+((k:Int)).toNat]?=some (rkyA y):=by rw [Nat.zero_add];exact hget0
  have hws:IntKind.i64.wrap ((k:Int)+1)=((k+1:Nat):Int):=wrap_succ (by omega)
  have h35:MutC Tryz.prog W 35 [.sl 1 (y.1.map AV.str) [],.sl 1 (p.map AV.str) []] [] (.ret (bA (decide (y.1=p))) []):=mut_of_pure (by simp only [cloL,AV.clo,cloL_str,Bool.and_self]) (texts35 W y.1 p (hp y (List.mem_of_getElem? hy)))
  rw [has_drop hy]
  obtain ⟨q2,d⟩:=y
  have hget2:(rksA K)[0+((k:Int)).toNat]?=some (.agg [.sl 1 (q2.map AV.str) [],iA (if d then -1 else 1)]):=hget
  clear hget hget0
  simp only at h35 ⊢
  generalize (if d then (-1:Int) else 1)=z2 at *
  cases hb:decide (q2=p) with
  | true =>
   rw [hb] at h35
   exact .inr ⟨rfl,loop_last (by simp) (body_of_sbodyK mixedz (b11i_0 W K h hx l lx p q2 i k true m z2) (by clear hp ih;exact Ig_z2) [] [] (by clear hp ih;exact Ig_z1))⟩
  | false =>
   rw [hb] at h35
   have st:∀ e σ,LoopC Tryz.prog W [] (nslots Tryz.prog 11) (loopOf Tryz.prog 11 1) (T11 h hx l lx K p m i (k+1)) e σ->LoopC Tryz.prog W [] (nslots Tryz.prog 11) (loopOf Tryz.prog 11 1) (T11 h hx l lx K p m i k) e σ:=fun e σ n1 =>
    loop_next (body_of_sbodyK mixedz (b11i_1 W K h hx l lx p q2 i k false m z2) (by clear hp ih n1;exact Ig_z2) [] [] (σ3:=T11 h hx l lx K p m i (k+1)) (by clear hp ih n1;exact Ig_z1)) n1
   rcases ih (k+1) (by omega) (by omega) with ⟨g1,g2⟩|⟨g1,g2⟩
   ·exact .inl ⟨g1,st _ _ g2⟩
   ·exact .inr ⟨g1,st _ _ g2⟩
theorem loop11 (h:JH) (l:List JV) (m:Nat) (hm8:m<=8) (hmn:m<=h.names.length) (hml:m<=l.length) (hN:∀ s ∈ h.names,s.length<=2 ^ 30):∀ (q i:Nat) (K:List (List (List UInt8)×Bool)),i+q=m->K.length=i->(∀ k ∈ K,k.1.length<2 ^ 62) →
 (∃ K2,prsG h.names l q i K=.ok K2/\LoopC Tryz.prog W [] (nslots Tryz.prog 11) (loopOf Tryz.prog 11 0) (S11 h l K m i) (.exit 0) (E11 K2))\/(∃ e,prsG h.names l q i K=.error e/\LoopC Tryz.prog W [] (nslots Tryz.prog 11) (loopOf Tryz.prog 11 0) (S11 h l K m i) .ret (R11 e)):=by
 intro q
 induction q with
 | zero =>
  intro i K hq hi hK
  exact .inl ⟨K,rfl,loop_last (by simp) (body_of_sbodyK mixedz (b11n_5 W K h l i m) (by clear hN hK;exact Ig_z2) [] [] (by clear hN hK;exact Ig_z1))⟩
 | succ q ih =>
  intro i K hq hi hK
  obtain ⟨s,hs⟩:=getOf (l:=h.names) (i:=i) (by omega)
  obtain ⟨x,hx⟩:=getOf (l:=l) (i:=i) (by omega)
  have hsl:=hN s (List.mem_of_getElem? hs)
  have hgs:(List.map AV.str h.names)[((i:Int)).toNat]?=some (AV.str s):=by rw [Int.toNat_natCast];exact strs_get hs
  have hgx:(encVs l)[((i:Int)).toNat]?=some (encV x):=by rw [Int.toNat_natCast];exact encVs_get hx
  have hws:IntKind.i64.wrap ((i:Int)+1)=((i+1:Nat):Int):=wrap_succ (by omega)
  have hP:MutC Tryz.prog W 34 [.str s] [] (.ret (parseAV s) []):=mut_of_pure (by rfl) (Parse23 W s hsl)
  unfold parseAV at hP
  have hpl:(parseP s).length<2 ^ 62:=by have:=parseP_len s;omega
  have hkl:=rks_len K
  have nx:=ih (i+1) (K++[(parseP s,decide (x.int<0))]) (by omega) (by rw [List.length_append];simp;omega) (hK_snoc hK hpl)
  have heo:=parseE_or s
  obtain ⟨hx',lx⟩:=x
  have hL:=loop11i W h hx' l lx K (parseP s) m i (by omega) hK K.length 0 (by omega) (by omega)
  rw [List.drop_zero] at hL
  rw [prsG,hs,hx]
  simp only
  by_cases he:parseE s=0
  case neg =>
   have c1:(!decide (parseE s=0))=true:=by rw [decide_eq_false he];rfl
   rw [if_pos he]
   have he2:parseE s=20:=heo.resolve_left he
   generalize parseE s=e at *
   generalize parseP s=p at *
   clear nx ih hN hK hL
   subst he2
   exact .inr ⟨20,rfl,loop_last (by simp) (body_of_sbodyK mixedz (b11n_0 W K h l p s i m 20 _) Ig_z2 [] [] Ig_z1)⟩
  have c1:(!decide (parseE s=0))=false:=by rw [decide_eq_true he];rfl
  rw [if_neg (by simp [he])]
  generalize hpe:parseE s=e at *
  generalize hpp:parseP s=p at *
  generalize hpa:parseA s=a at *
  by_cases hk:hx'.kind=3
  case neg =>
   have c2:(!decide (hx'.kind=3))=true:=by rw [decide_eq_false hk];rfl
   rw [if_pos (.inl hk)]
   clear nx ih hN hK hL
   exact .inr ⟨60,rfl,loop_last (by simp) (body_of_sbodyK mixedz (b11n_1 W K h hx' l lx p s i m e a) Ig_z2 [] [] Ig_z1)⟩
  have c2:(!decide (hx'.kind=3))=false:=by rw [decide_eq_true hk];rfl
  have fin:(hx'.int=1\/hx'.int=-1)->((LoopC Tryz.prog W [] (nslots Tryz.prog 11) (loopOf Tryz.prog 11 1) (T11 h hx' l lx K p m i 0) .ret (R11 60))->LoopC Tryz.prog W [] (nslots Tryz.prog 11) (loopOf Tryz.prog 11 0) (S11 h l K m i) .ret (R11 60))->((LoopC Tryz.prog W [] (nslots Tryz.prog 11) (loopOf Tryz.prog 11 1) (T11 h hx' l lx K p m i 0) (.exit 2) (U11 h hx' l lx K p m i))->∀ e σ,LoopC Tryz.prog W [] (nslots Tryz.prog 11) (loopOf Tryz.prog 11 0) (S11 h l (K++[(p,decide (hx'.int<0))]) m (i+1)) e σ->LoopC Tryz.prog W [] (nslots Tryz.prog 11) (loopOf Tryz.prog 11 0) (S11 h l K m i) e σ) →
   (∃ K2,(if hx'.kind ≠ 3\/hx'.int ≠ 1/\hx'.int ≠ -1\/hasK K p=true then Except.error 60 else prsG h.names l q (i+1) (K++[(p,decide (hx'.int<0))]))=.ok K2/\LoopC Tryz.prog W [] (nslots Tryz.prog 11) (loopOf Tryz.prog 11 0) (S11 h l K m i) (.exit 0) (E11 K2))\/(∃ e,(if hx'.kind ≠ 3\/hx'.int ≠ 1/\hx'.int ≠ -1\/hasK K p=true then Except.error 60 else prsG h.names l q (i+1) (K++[(p,decide (hx'.int<0))]))=.error e/\LoopC Tryz.prog W [] (nslots Tryz.prog 11) (loopOf Tryz.prog 11 0) (S11 h l K m i) .ret (R11 e)):=by
   intro hi1 ht hf
   rcases hL with ⟨hb,hL⟩|⟨hb,hL⟩
   ·rw [if_neg (fun h1=>h1.elim (fun h=>h hk) (fun h=>h.elim (fun h=>hi1.elim h.1 h.2) (fun h=>by rw [hb] at h;cases h)))]
    rcases nx with ⟨K2,n1,n4⟩|⟨e,n1,n3⟩
    ·exact .inl ⟨K2,n1,hf hL _ _ n4⟩
    ·exact .inr ⟨e,n1,hf hL _ _ n3⟩
   ·rw [if_pos (.inr (.inr hb))]
    exact .inr ⟨60,rfl,ht hL⟩
  by_cases h1:hx'.int=1
  ·have c3:(!decide (hx'.int=1))=false:=by rw [decide_eq_true h1];rfl
   refine fin (.inl h1) (fun hl=>?_) (fun hl e2 σ2 n1=>?_)
   ·clear nx ih hN hK fin hL
    exact loop_last (by simp) (body_of_sbodyK mixedz (b11r_4 W K h hx' l lx p s i m e a) Ig_z2 [] [] Ig_z1)
   ·have hset:List.take K.length (rksA K)++[AV.agg [.sl 1 (p.map AV.str) [],iA hx'.int]]=rksA (K++[(p,decide (hx'.int<0))]):=by rw [<-hkl,List.take_length,h1];exact rks_app K (p,false)
    have hgl:K.length+[AV.agg [.sl 1 (p.map AV.str) [],iA hx'.int]].length=(K++[(p,decide (hx'.int<0))]).length:=by rw [List.length_append];rfl
    have hg2:(K.length+[AV.agg [sL 1 (List.map AV.str p),iA hx'.int]].length) * 32<=140737488355328:=by show (K.length+1) * 32<=_;omega
    exact loop_next (body_of_sbodyK mixedz (b11n_4 W K h hx' l lx p s i m e a) (by clear nx ih hN hK fin n1 hL;exact Ig_z2) [(100001,100004)] [] (σ3:=S11 h l (K++[(p,decide (hx'.int<0))]) m (i+1)) (by clear nx ih hN hK fin n1 hL;exact Ig_z1)) n1
  have c3:(!decide (hx'.int=1))=true:=by rw [decide_eq_false h1];rfl
  by_cases h2:hx'.int=-1
  ·have c4:(!decide (hx'.int=-1))=false:=by rw [decide_eq_true h2];rfl
   refine fin (.inr h2) (fun hl=>?_) (fun hl e2 σ2 n1=>?_)
   ·clear nx ih hN hK fin hL
    exact loop_last (by simp) (body_of_sbodyK mixedz (b11r_3 W K h hx' l lx p s i m e a) Ig_z2 [] [] Ig_z1)
   ·have hset:List.take K.length (rksA K)++[AV.agg [.sl 1 (p.map AV.str) [],iA hx'.int]]=rksA (K++[(p,decide (hx'.int<0))]):=by rw [<-hkl,List.take_length,h2];exact rks_app K (p,true)
    have hgl:K.length+[AV.agg [.sl 1 (p.map AV.str) [],iA hx'.int]].length=(K++[(p,decide (hx'.int<0))]).length:=by rw [List.length_append];rfl
    have hg2:(K.length+[AV.agg [sL 1 (List.map AV.str p),iA hx'.int]].length) * 32<=140737488355328:=by show (K.length+1) * 32<=_;omega
    exact loop_next (body_of_sbodyK mixedz (b11n_3 W K h hx' l lx p s i m e a) (by clear nx ih hN hK fin n1 hL;exact Ig_z2) [(100001,100004)] [] (σ3:=S11 h l (K++[(p,decide (hx'.int<0))]) m (i+1)) (by clear nx ih hN hK fin n1 hL;exact Ig_z1)) n1
  ·have c4:(!decide (hx'.int=-1))=true:=by rw [decide_eq_false h2];rfl
   rw [if_pos (.inr (.inl ⟨h1,h2⟩))]
   clear nx ih hN hK fin hL
   exact .inr ⟨60,rfl,loop_last (by simp) (body_of_sbodyK mixedz (b11n_2 W K h hx' l lx p s i m e a) Ig_z2 [] [] Ig_z1)⟩
theorem parse11 (v:JV) (hN:∀ s ∈ v.names,s.length<=2 ^ 30):Pure Tryz.prog W 11 [encV v] (resR (prsV v)):=by
 obtain ⟨h,l⟩:=v
 have hN':∀ s ∈ h.names,s.length<=2 ^ 30:=hN
 have h33:MutC Tryz.prog W 33 [encV (.mk h l)] [] (.ret (iA (min h.names.length l.length:Nat)) []):=mut_of_pure (by simp only [cloL,encV_clo,Bool.and_self]) (members33 W (.mk h l))
 unfold prsV
 show Pure _ _ _ _ (resR (if h.kind ≠ 6 then .error 60 else if 8<min h.names.length l.length then .error 43 else prsG h.names l (min h.names.length l.length) 0 []))
 by_cases hk:h.kind=6
 case neg =>
  have c1:(!decide (h.kind=6))=true:=by rw [decide_eq_false hk];rfl
  rw [if_pos hk]
  exact pure_of_mut rfl (mut_of_sfun mixedz call11 rfl (q11_0 W h l) Ig_z2)
 have c1:(!decide (h.kind=6))=false:=by rw [decide_eq_true hk];rfl
 rw [if_neg (by simp [hk])]
 by_cases h8:8<min h.names.length l.length
 ·have c2:decide ((8:Int)<((min h.names.length l.length:Nat):Int))=true:=decide_eq_true (by omega)
  rw [if_pos h8]
  exact pure_of_mut rfl (mut_of_sfun mixedz call11 rfl (q11_1 W h l _) Ig_z2)
 have c2:decide ((8:Int)<((min h.names.length l.length:Nat):Int))=false:=decide_eq_false (by omega)
 rw [if_neg h8]
 have hlp:=loop11 W h l (min h.names.length l.length) (by omega) (by omega) (by omega) hN' (min h.names.length l.length) 0 [] (by omega) rfl (by simp)
 rcases hlp with ⟨K2,n1,n4⟩|⟨e,n1,n3⟩
 ·rw [n1]
  show Pure _ _ _ _ (.tup [.sl 2 (rksA K2) [],iA 0])
  have hkl:=rks_len K2
  clear hN hN'
  generalize ((min h.names.length l.length:Nat):Int)=m at *
  have hM:=mut_of_sfun mixedz call11 rfl (p11_2 W K2 h l m) Ig_z2
  have e1:List.take K2.length (rksA K2)=rksA K2:=by rw [<-hkl,List.take_length]
  exact pure_frz [(100001,.arr 73 2 (rksA K2) .own)] hM (by intro p hp;simp only [List.mem_singleton] at hp;subst hp;exact ⟨by simp [hg],rks_clo _⟩) (by simp [clA,clL,lk,hkl,e1]<;>rfl) (by show AV.clo _=true;simp only [AV.clo,cloL,rks_clo,Bool.and_self]<;>rfl)
 ·rw [n1]
  show Pure _ _ _ _ (.tup [.val (.slice none 0 0),iA e])
  clear hN hN'
  generalize ((min h.names.length l.length:Nat):Int)=m at *
  exact pure_of_mut rfl (mut_of_sfun mixedz call11 rfl (q11_2 W h l m e) Ig_z2)
end
end De
end Go.Ac

