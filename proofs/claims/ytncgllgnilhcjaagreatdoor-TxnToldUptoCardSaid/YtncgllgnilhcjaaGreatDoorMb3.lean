/- What is proved: contracts of functions of this translation, walked; their plain meaning. No condition beyond those that each theorem names. -/
import Derived.Test.YtncgllgnilhcjaaGreatDoorMb2
set_option linter.all false
namespace Go.Ac
open Go Go.Proofs
set_option maxRecDepth 10000
set_option maxHeartbeats 1000000
def zF:AV:=.agg [.val (.slice none 0 0),bA false]
def H8 (h:JH) (l:List JV) (acc:List (List (List UInt8))) (c:Bool):List (Nat×GE):=[(100000,.box (encV (.mk h l)) .own),(100001,.box zF .own),(100002,.box (.agg [.gs 100003 0 acc.length,bA c]) .own),(100003,.arr 22 1 (ppA acc) .own)]
def S8 (h:JH) (l:List JV) (acc:List (List (List UInt8))) (c:Bool) (n:Int) (i:Nat):AS:=⟨[(1,.gp 100000 0),(2,.gp 100001 0),(4,iA n),(5,.gp 100002 0),(6,iA i)],H8 h l acc c⟩
def T8 (h:JH) (l:List JV) (acc:List (List (List UInt8))) (c:Bool) (n:Int) (i:Nat) (p:List (List UInt8)) (k:Nat):AS:=⟨[(1,.gp 100000 0),(2,.gp 100001 0),(4,iA n),(5,.gp 100002 0),(6,iA i),(7,.sl 1 (p.map AV.str) []),(10,iA k)],H8 h l acc c⟩
def U8 (h:JH) (l:List JV) (acc:List (List (List UInt8))) (c:Bool) (n:Int) (i:Nat) (p:List (List UInt8)):AS:=⟨[(1,.gp 100000 0),(2,.gp 100001 0),(4,iA n),(5,.gp 100002 0),(6,iA i),(7,.sl 1 (p.map AV.str) [])],H8 h l acc c⟩
def E8 (acc:List (List (List UInt8))) (c:Bool):AS:=⟨[(2,.gp 100001 0),(5,.gp 100002 0)],[(100001,.box zF .own),(100002,.box (.agg [.gs 100003 0 acc.length,bA c]) .own),(100003,.arr 22 1 (ppA acc) .own)]⟩
def R8 (e:Int):AS:=⟨[(2,.gp 100001 0),(3,iA e)],[(100001,.box zF .own)]⟩
def H9 (h:JH) (l:List JV) (acc:List (List (List UInt8))) (c:Bool):List (Nat×GE):=[(100000,.box (encV (.mk h l)) .own),(100001,.box (.agg [.gs 100002 0 acc.length,bA c]) .own),(100002,.arr 22 1 (ppA acc) .own)]
def S9 (h:JH) (l:List JV) (acc:List (List (List UInt8))) (c:Bool) (n:Int) (i:Nat):AS:=⟨[(1,.gp 100000 0),(5,.gp 100001 0),(27,iA n),(28,iA i)],H9 h l acc c⟩
def T9 (h:JH) (l:List JV) (acc:List (List (List UInt8))) (c:Bool) (n:Int) (i:Nat) (p:List (List UInt8)) (k:Nat):AS:=⟨[(1,.gp 100000 0),(5,.gp 100001 0),(7,.sl 1 (p.map AV.str) []),(27,iA n),(28,iA i),(86,.gs 100002 0 acc.length),(87,iA acc.length),(88,iA k)],H9 h l acc c⟩
def U9 (h:JH) (l:List JV) (acc:List (List (List UInt8))) (c:Bool) (n:Int) (i:Nat) (p:List (List UInt8)):AS:=⟨[(1,.gp 100000 0),(5,.gp 100001 0),(7,.sl 1 (p.map AV.str) []),(27,iA n),(28,iA i)],H9 h l acc c⟩
def E9 (acc:List (List (List UInt8))) (c:Bool):AS:=⟨[(5,.gp 100001 0)],[(100001,.box (.agg [.gs 100002 0 acc.length,bA c]) .own),(100002,.arr 22 1 (ppA acc) .own)]⟩
def R9 (e:Int):AS:=⟨[(2,.val (.pointer none)),(3,iA e)],[]⟩
theorem p8_2 (W:World) (h:JH) (l:List JV) (acc:List (List (List UInt8))) (c:Bool) (n:Int):sF W {lp:=true,ol:=true,fin:=9,tl:=[57]} 39 [eV h l] [] 100000 [bf,ee,.lg,ee,cR (iA n) [],bf,ee,.loopM [] [(100003,1)] (S8 h l [] false n 0) (.exit 0) (E8 acc c),ee,.fin [] [] (.tup [.agg [.gs 100003 0 acc.length,bA c],iA 0]) [(100003,.arr 22 1 (ppA acc) .own)],ee] []=.ok (.ret (.tup [.agg [.gs 100003 0 acc.length,bA c],iA 0]) [(100003,.arr 22 1 (ppA acc) .own)],[ee],[MatchK [] [] [] {t:=[(0,.tup [.agg [.gs 100003 0 acc.length,bA c],iA 0])],h:=[(100001,gB (.agg [.gs 100003 0 acc.length,bA c])),(100002,gB (.agg [.gs 100003 0 acc.length,bA c])),(100003,.arr 22 1 (ppA acc) .own)]} {t:=[(0,.tup [.agg [.gs 100003 0 acc.length,bA c],iA 0])],h:=[(100003,.arr 22 1 (ppA acc) .own)]},LZ W [] 39 0 (S8 h l [] false n 0) (.exit 0) (E8 acc c),MatchK [] [] [(100003,1)] {t:=[(1,.gp 100000 0),(2,.gp 100001 0),(4,iA n),(5,.gp 100002 0),(6,iA 0)],h:=[(100000,gB (eV h l)),(100001,gB (.agg [.val (Value.slice none 0 0),bA false])),(100002,gB (.agg [.val (Value.slice none 0 0),bA false]))]} (S8 h l [] false n 0),decide (32<n)=false,MZ W 57 [eV h l] [] (.ret (iA n) []),cloHs [],(!decide (h.kind=6))=false]):=kr
theorem q8_0 (W:World) (h:JH) (l:List JV):sF W {lp:=true,ol:=true,tl:=[57]} 39 [eV h l] [] 100000 [bt,ee] []=.ok (.ret (.tup [.agg [.val (Value.slice none 0 0),bA false],iA 61]) [],[ee],[(!decide (h.kind=6))=true]):=kr
theorem q8_1 (W:World) (h:JH) (l:List JV) (n:Int):sF W {lp:=true,ol:=true,tl:=[57]} 39 [eV h l] [] 100000 [bf,ee,.lg,ee,cR (iA n) [],bt,ee] []=.ok (.ret (.tup [.agg [.val (Value.slice none 0 0),bA false],iA 43]) [],[ee],[decide (32<n)=true,MZ W 57 [eV h l] [] (.ret (iA n) []),cloHs [],(!decide (h.kind=6))=false]):=kr
theorem q8_2 (W:World) (h:JH) (l:List JV) (n e:Int):sF W {lp:=true,ol:=true,tl:=[57]} 39 [eV h l] [] 100000 [bf,ee,.lg,ee,cR (iA n) [],bf,ee,.loopM [] [(100003,1)] (S8 h l [] false n 0) .ret (R8 e),ee] []=.ok (.ret (.tup [.agg [.val (Value.slice none 0 0),bA false],iA e]) [],[ee],[LZ W [] 39 0 (S8 h l [] false n 0) .ret (R8 e),MatchK [] [] [(100003,1)] {t:=[(1,.gp 100000 0),(2,.gp 100001 0),(4,iA n),(5,.gp 100002 0),(6,iA 0)],h:=[(100000,gB (eV h l)),(100001,gB (.agg [.val (Value.slice none 0 0),bA false])),(100002,gB (.agg [.val (Value.slice none 0 0),bA false]))]} (S8 h l [] false n 0),decide (32<n)=false,MZ W 57 [eV h l] [] (.ret (iA n) []),cloHs [],(!decide (h.kind=6))=false]):=kr
theorem b8x_0 (W:World) (h:JH) (l:List JV) (acc:List (List (List UInt8))) (c:Bool) (n e a:Int) (i:Nat) (s:List UInt8) (p:List (List UInt8)):sQ W {lp:=true,ol:=true,tl:=[58,60]} 39 0 [] [1,2,3,4,5,6] (S8 h l acc c n i) [bt,aE 1,oS (.str s),ee,.lg,ee,cR (.tup [sL 1 (List.map AV.str p),iA e,iA a]) [],bt,ee]=.ok ((.ret,{t:=[(1,.gp 100000 0),(2,.gp 100001 0),(3,iA 20),(4,iA n),(5,.gp 100002 0),(6,iA (i:Int))],h:=[(100000,gB (eV h l)),(100001,gB (.agg [.val (Value.slice none 0 0),bA false])),(100002,gB (.agg [.gs 100003 0 acc.length,bA c])),(100003,.arr 22 1 (ppA acc) .own)]}),[ee],[(!decide (e=0))=true,MZ W 58 [.str s] [] (.ret (.tup [sL 1 (List.map AV.str p),iA e,iA a]) []),cloHs [],(List.map AV.str h.names)[(i:Int).toNat]?=some (AV.str s),decide ((i:Int)<n)=true]):=kr
theorem b8x_1 (W:World) (h hx:JH) (l lx:List JV) (acc:List (List (List UInt8))) (c:Bool) (n e a:Int) (i:Nat) (s:List UInt8) (p:List (List UInt8)):sQ W {lp:=true,ol:=true,tl:=[58,60]} 39 0 [] [1,2,3,4,5,6] (S8 h l acc c n i) [bt,aE 1,oS (.str s),ee,.lg,ee,cR (.tup [sL 1 (List.map AV.str p),iA e,iA a]) [],bf,ee,.loopM [] [] (T8 h l acc c n i p 0) (.exit 2) (U8 h l acc c n i p),aE 1,oS (eV hx lx),bt,bt,bt,bt,bt,bt,ee]=.ok ((.ret,{t:=[(1,.gp 100000 0),(2,.gp 100001 0),(3,iA 61),(4,iA n),(5,.gp 100002 0),(6,iA (i:Int))],h:=[(100000,gB (eV h l)),(100001,gB (.agg [.val (Value.slice none 0 0),bA false])),(100002,gB (.agg [.gs 100003 0 acc.length,bA c])),(100003,.arr 22 1 (ppA acc) .own),(100004,gB (eV hx lx))]}),[aE 9999999],d6 ((!decide (hx.kind=3))=true) [(encVs l)[(i:Int).toNat]?=some (eV hx lx),LZ W [] 39 1 (T8 h l acc c n i p 0) (.exit 2) (U8 h l acc c n i p),MatchK [] [] [] {t:=[(1,.gp 100000 0),(2,.gp 100001 0),(4,iA n),(5,.gp 100002 0),(6,iA (i:Int)),(7,sL 1 (List.map AV.str p)),(10,iA 0)],h:=[(100000,gB (eV h l)),(100001,gB (.agg [.val (Value.slice none 0 0),bA false])),(100002,gB (.agg [.gs 100003 0 acc.length,bA c])),(100003,.arr 22 1 (ppA acc) .own)]} (T8 h l acc c n i p 0),(!decide (e=0))=false,MZ W 58 [.str s] [] (.ret (.tup [sL 1 (List.map AV.str p),iA e,iA a]) []),cloHs [],(List.map AV.str h.names)[(i:Int).toNat]?=some (AV.str s),decide ((i:Int)<n)=true]):=kr
theorem b8x_2 (W:World) (h hx:JH) (l lx:List JV) (acc:List (List (List UInt8))) (c:Bool) (n e a:Int) (i:Nat) (s:List UInt8) (p:List (List UInt8)):sQ W {lp:=true,ol:=true,tl:=[58,60]} 39 0 [] [1,2,3,4,5,6] (S8 h l acc c n i) [bt,aE 1,oS (.str s),ee,.lg,ee,cR (.tup [sL 1 (List.map AV.str p),iA e,iA a]) [],bf,ee,.loopM [] [] (T8 h l acc c n i p 0) (.exit 2) (U8 h l acc c n i p),aE 1,oS (eV hx lx),bf,bf,bf,bf,bt,bt,bt,bf,bt,bf,bt,ee]=.ok ((.ret,{t:=[(1,.gp 100000 0),(2,.gp 100001 0),(3,iA 61),(4,iA n),(5,.gp 100002 0),(6,iA (i:Int))],h:=[(100000,gB (eV h l)),(100001,gB (.agg [.val (Value.slice none 0 0),bA false])),(100002,gB (.agg [.gs 100003 0 acc.length,bA c])),(100003,.arr 22 1 (ppA acc) .own),(100004,gB (eV hx lx))]}),[ee],((!decide (hx.int=1))=true)::((!decide (hx.kind=3))=false)::((!decide (hx.int=0))=true)::((!decide (hx.kind=3))=false)::(d3 ((!decide (hx.int=0))=true) (d4 ((!decide (hx.kind=3))=false) [(encVs l)[(i:Int).toNat]?=some (eV hx lx),LZ W [] 39 1 (T8 h l acc c n i p 0) (.exit 2) (U8 h l acc c n i p),MatchK [] [] [] {t:=[(1,.gp 100000 0),(2,.gp 100001 0),(4,iA n),(5,.gp 100002 0),(6,iA (i:Int)),(7,sL 1 (List.map AV.str p)),(10,iA 0)],h:=[(100000,gB (eV h l)),(100001,gB (.agg [.val (Value.slice none 0 0),bA false])),(100002,gB (.agg [.gs 100003 0 acc.length,bA c])),(100003,.arr 22 1 (ppA acc) .own)]} (T8 h l acc c n i p 0),(!decide (e=0))=false,MZ W 58 [.str s] [] (.ret (.tup [sL 1 (List.map AV.str p),iA e,iA a]) []),cloHs [],(List.map AV.str h.names)[(i:Int).toNat]?=some (AV.str s),decide ((i:Int)<n)=true]))):=kr
theorem b8x_3 (W:World) (h hx:JH) (l lx:List JV) (acc:List (List (List UInt8))) (c:Bool) (n e a:Int) (i:Nat) (s:List UInt8) (p:List (List UInt8)):sQ W {lp:=true,ol:=true,tl:=[58,60]} 39 0 [] [1,2,3,4,5,6] (S8 h l acc c n i) [bt,aE 1,oS (.str s),ee,.lg,ee,cR (.tup [sL 1 (List.map AV.str p),iA e,iA a]) [],bf,ee,.loopM [] [] (T8 h l acc c n i p 0) (.exit 2) (U8 h l acc c n i p),aE 1,oS (eV hx lx),bf,bf,bf,bf,bt,bt,bt,bf,bt,bf,bf,bt,bt,bt,bt,bt,bt,bt,bt,ee]=.ok ((.ret,{t:=[(1,.gp 100000 0),(2,.gp 100001 0),(3,iA 62),(4,iA n),(5,.gp 100002 0),(6,iA (i:Int))],h:=[(100000,gB (eV h l)),(100001,gB (.agg [.val (Value.slice none 0 0),bA false])),(100002,gB (.agg [.gs 100003 0 acc.length,bA c])),(100003,.arr 22 1 (ppA acc) .own),(100004,gB (eV hx lx))]}),[ee],((!c == decide (hx.int=1))=true)::(decide (0<(i:Int))=true)::(d6 (decide (0<(i:Int))=true) (((!decide (hx.int=1))=false)::((!decide (hx.kind=3))=false)::((!decide (hx.int=0))=true)::((!decide (hx.kind=3))=false)::(d3 ((!decide (hx.int=0))=true) (d4 ((!decide (hx.kind=3))=false) [(encVs l)[(i:Int).toNat]?=some (eV hx lx),LZ W [] 39 1 (T8 h l acc c n i p 0) (.exit 2) (U8 h l acc c n i p),MatchK [] [] [] {t:=[(1,.gp 100000 0),(2,.gp 100001 0),(4,iA n),(5,.gp 100002 0),(6,iA (i:Int)),(7,sL 1 (List.map AV.str p)),(10,iA 0)],h:=[(100000,gB (eV h l)),(100001,gB (.agg [.val (Value.slice none 0 0),bA false])),(100002,gB (.agg [.gs 100003 0 acc.length,bA c])),(100003,.arr 22 1 (ppA acc) .own)]} (T8 h l acc c n i p 0),(!decide (e=0))=false,MZ W 58 [.str s] [] (.ret (.tup [sL 1 (List.map AV.str p),iA e,iA a]) []),cloHs [],(List.map AV.str h.names)[(i:Int).toNat]?=some (AV.str s),decide ((i:Int)<n)=true]))))):=kr
theorem b8x_4 (W:World) (h hx:JH) (l lx:List JV) (acc:List (List (List UInt8))) (c cb:Bool) (n e a m:Int) (i:Nat) (s:List UInt8) (p:List (List UInt8)):sQ W {lp:=true,ol:=true,tl:=[58,60]} 39 0 [] [1,2,3,4,5,6] (S8 h l acc c n i) [bt,aE 1,oS (.str s),ee,.lg,ee,cR (.tup [sL 1 (List.map AV.str p),iA e,iA a]) [],bf,ee,.loopM [] [] (T8 h l acc c n i p 0) (.exit 2) (U8 h l acc c n i p),aE 1,oS (eV hx lx),bf,bf,bf,bf,bt,bt,bt,bf,bt,bf,bf,bt,bt,bt,bt,bt,bt,bt,bf,aE 1,.lg,.lg,ee,.lg,ee,cR (.tup [iA m,bA cb]) [(100006,.arr 22 1 (List.take acc.length (ppA acc)++[sL 1 (List.map AV.str p)]) .own)],bt,ee]=.ok ((.ret,{t:=[(1,.gp 100000 0),(2,.gp 100001 0),(3,iA 23),(4,iA n),(5,.gp 100002 0),(6,iA (i:Int))],h:=[(100000,gB (eV h l)),(100001,gB (.agg [.val (Value.slice none 0 0),bA false])),(100002,gB (.agg [.gs 100006 0 (acc.length+[sL 1 (List.map AV.str p)].length),bA (decide (hx.int=1))])),(100003,.dead),(100004,gB (eV hx lx)),(100005,.arr 22 1 [sL 1 (List.map AV.str p)] .own),(100006,.arr 22 1 (List.take acc.length (ppA acc)++[sL 1 (List.map AV.str p)]) .own)]}),[ee],(cb=true)::MZ W 60 [.gs 100006 0 (acc.length+[sL 1 (List.map AV.str p)].length)] [(100006,.arr 22 1 (List.take acc.length (ppA acc)++[sL 1 (List.map AV.str p)]) .own)] (.ret (.tup [iA m,bA cb]) [(100006,.arr 22 1 (List.take acc.length (ppA acc)++[sL 1 (List.map AV.str p)]) .own)])::cloHs [(100006,.arr 22 1 (List.take acc.length (ppA acc)++[sL 1 (List.map AV.str p)]) .own)]::((acc.length+[sL 1 (List.map AV.str p)].length) * 24<=140737488355328)::((St.own=St.own\/St.own=St.shr/\acc.length=(ppA acc).length)/\acc.length<=(ppA acc).length)::((!c == decide (hx.int=1))=false)::(decide (0<(i:Int))=true)::(d6 (decide (0<(i:Int))=true) (((!decide (hx.int=1))=false)::((!decide (hx.kind=3))=false)::((!decide (hx.int=0))=true)::((!decide (hx.kind=3))=false)::(d3 ((!decide (hx.int=0))=true) (d4 ((!decide (hx.kind=3))=false) [(encVs l)[(i:Int).toNat]?=some (eV hx lx),LZ W [] 39 1 (T8 h l acc c n i p 0) (.exit 2) (U8 h l acc c n i p),MatchK [] [] [] {t:=[(1,.gp 100000 0),(2,.gp 100001 0),(4,iA n),(5,.gp 100002 0),(6,iA (i:Int)),(7,sL 1 (List.map AV.str p)),(10,iA 0)],h:=[(100000,gB (eV h l)),(100001,gB (.agg [.val (Value.slice none 0 0),bA false])),(100002,gB (.agg [.gs 100003 0 acc.length,bA c])),(100003,.arr 22 1 (ppA acc) .own)]} (T8 h l acc c n i p 0),(!decide (e=0))=false,MZ W 58 [.str s] [] (.ret (.tup [sL 1 (List.map AV.str p),iA e,iA a]) []),cloHs [],(List.map AV.str h.names)[(i:Int).toNat]?=some (AV.str s),decide ((i:Int)<n)=true]))))):=kr
theorem b8x_5 (W:World) (h hx:JH) (l lx:List JV) (acc:List (List (List UInt8))) (c cb:Bool) (n e a m:Int) (i:Nat) (s:List UInt8) (p:List (List UInt8)):sQ W {lp:=true,ol:=true,tl:=[58,60]} 39 0 [] [1,2,3,4,5,6] (S8 h l acc c n i) [bt,aE 1,oS (.str s),ee,.lg,ee,cR (.tup [sL 1 (List.map AV.str p),iA e,iA a]) [],bf,ee,.loopM [] [] (T8 h l acc c n i p 0) (.exit 2) (U8 h l acc c n i p),aE 1,oS (eV hx lx),bf,bf,bf,bf,bt,bt,bt,bf,bt,bf,bf,bt,bt,bt,bt,bt,bt,bt,bf,aE 1,.lg,.lg,ee,.lg,ee,cR (.tup [iA m,bA cb]) [(100006,.arr 22 1 (List.take acc.length (ppA acc)++[sL 1 (List.map AV.str p)]) .own)],bf,ee]=.ok ((.normal,{t:=[(1,.gp 100000 0),(2,.gp 100001 0),(4,iA n),(5,.gp 100002 0),(6,iA (IntKind.i64.wrap ((i:Int)+1)))],h:=[(100000,gB (eV h l)),(100001,gB (.agg [.val (Value.slice none 0 0),bA false])),(100002,gB (.agg [.gs 100006 0 (acc.length+[sL 1 (List.map AV.str p)].length),bA (decide (hx.int=1))])),(100003,.dead),(100004,gB (eV hx lx)),(100005,.arr 22 1 [sL 1 (List.map AV.str p)] .own),(100006,.arr 22 1 (List.take acc.length (ppA acc)++[sL 1 (List.map AV.str p)]) .own)]}),[ee],(cb=false)::MZ W 60 [.gs 100006 0 (acc.length+[sL 1 (List.map AV.str p)].length)] [(100006,.arr 22 1 (List.take acc.length (ppA acc)++[sL 1 (List.map AV.str p)]) .own)] (.ret (.tup [iA m,bA cb]) [(100006,.arr 22 1 (List.take acc.length (ppA acc)++[sL 1 (List.map AV.str p)]) .own)])::cloHs [(100006,.arr 22 1 (List.take acc.length (ppA acc)++[sL 1 (List.map AV.str p)]) .own)]::((acc.length+[sL 1 (List.map AV.str p)].length) * 24<=140737488355328)::((St.own=St.own\/St.own=St.shr/\acc.length=(ppA acc).length)/\acc.length<=(ppA acc).length)::((!c == decide (hx.int=1))=false)::(decide (0<(i:Int))=true)::(d6 (decide (0<(i:Int))=true) (((!decide (hx.int=1))=false)::((!decide (hx.kind=3))=false)::((!decide (hx.int=0))=true)::((!decide (hx.kind=3))=false)::(d3 ((!decide (hx.int=0))=true) (d4 ((!decide (hx.kind=3))=false) [(encVs l)[(i:Int).toNat]?=some (eV hx lx),LZ W [] 39 1 (T8 h l acc c n i p 0) (.exit 2) (U8 h l acc c n i p),MatchK [] [] [] {t:=[(1,.gp 100000 0),(2,.gp 100001 0),(4,iA n),(5,.gp 100002 0),(6,iA (i:Int)),(7,sL 1 (List.map AV.str p)),(10,iA 0)],h:=[(100000,gB (eV h l)),(100001,gB (.agg [.val (Value.slice none 0 0),bA false])),(100002,gB (.agg [.gs 100003 0 acc.length,bA c])),(100003,.arr 22 1 (ppA acc) .own)]} (T8 h l acc c n i p 0),(!decide (e=0))=false,MZ W 58 [.str s] [] (.ret (.tup [sL 1 (List.map AV.str p),iA e,iA a]) []),cloHs [],(List.map AV.str h.names)[(i:Int).toNat]?=some (AV.str s),decide ((i:Int)<n)=true]))))):=kr
theorem b8x_6 (W:World) (h hx:JH) (l lx:List JV) (acc:List (List (List UInt8))) (c cb:Bool) (n e a m:Int) (i:Nat) (s:List UInt8) (p:List (List UInt8)):sQ W {lp:=true,ol:=true,tl:=[58,60]} 39 0 [] [1,2,3,4,5,6] (S8 h l acc c n i) [bt,aE 1,oS (.str s),ee,.lg,ee,cR (.tup [sL 1 (List.map AV.str p),iA e,iA a]) [],bf,ee,.loopM [] [] (T8 h l acc c n i p 0) (.exit 2) (U8 h l acc c n i p),aE 1,oS (eV hx lx),bf,bf,bf,bf,bt,bt,bt,bf,bt,bf,bf,bf,bf,bf,bf,bf,bf,bf,aE 2,.lg,.lg,ee,.lg,ee,cR (.tup [iA m,bA cb]) [(100006,.arr 22 1 (List.take acc.length (ppA acc)++[sL 1 (List.map AV.str p)]) .own)],bt,ee]=.ok ((.ret,{t:=[(1,.gp 100000 0),(2,.gp 100001 0),(3,iA 23),(4,iA n),(5,.gp 100002 0),(6,iA (i:Int))],h:=[(100000,gB (eV h l)),(100001,gB (.agg [.val (Value.slice none 0 0),bA false])),(100002,gB (.agg [.gs 100006 0 (acc.length+[sL 1 (List.map AV.str p)].length),bA (decide (hx.int=1))])),(100003,.dead),(100004,gB (eV hx lx)),(100005,.arr 22 1 [sL 1 (List.map AV.str p)] .own),(100006,.arr 22 1 (List.take acc.length (ppA acc)++[sL 1 (List.map AV.str p)]) .own)]}),[ee],(cb=true)::MZ W 60 [.gs 100006 0 (acc.length+[sL 1 (List.map AV.str p)].length)] [(100006,.arr 22 1 (List.take acc.length (ppA acc)++[sL 1 (List.map AV.str p)]) .own)] (.ret (.tup [iA m,bA cb]) [(100006,.arr 22 1 (List.take acc.length (ppA acc)++[sL 1 (List.map AV.str p)]) .own)])::cloHs [(100006,.arr 22 1 (List.take acc.length (ppA acc)++[sL 1 (List.map AV.str p)]) .own)]::((acc.length+[sL 1 (List.map AV.str p)].length) * 24<=140737488355328)::((St.own=St.own\/St.own=St.shr/\acc.length=(ppA acc).length)/\acc.length<=(ppA acc).length)::(decide (0<(i:Int))=false)::(d6 (decide (0<(i:Int))=false) (((!decide (hx.int=1))=false)::((!decide (hx.kind=3))=false)::((!decide (hx.int=0))=true)::((!decide (hx.kind=3))=false)::(d3 ((!decide (hx.int=0))=true) (d4 ((!decide (hx.kind=3))=false) [(encVs l)[(i:Int).toNat]?=some (eV hx lx),LZ W [] 39 1 (T8 h l acc c n i p 0) (.exit 2) (U8 h l acc c n i p),MatchK [] [] [] {t:=[(1,.gp 100000 0),(2,.gp 100001 0),(4,iA n),(5,.gp 100002 0),(6,iA (i:Int)),(7,sL 1 (List.map AV.str p)),(10,iA 0)],h:=[(100000,gB (eV h l)),(100001,gB (.agg [.val (Value.slice none 0 0),bA false])),(100002,gB (.agg [.gs 100003 0 acc.length,bA c])),(100003,.arr 22 1 (ppA acc) .own)]} (T8 h l acc c n i p 0),(!decide (e=0))=false,MZ W 58 [.str s] [] (.ret (.tup [sL 1 (List.map AV.str p),iA e,iA a]) []),cloHs [],(List.map AV.str h.names)[(i:Int).toNat]?=some (AV.str s),decide ((i:Int)<n)=true]))))):=kr
theorem b8x_7 (W:World) (h hx:JH) (l lx:List JV) (acc:List (List (List UInt8))) (c cb:Bool) (n e a m:Int) (i:Nat) (s:List UInt8) (p:List (List UInt8)):sQ W {lp:=true,ol:=true,tl:=[58,60]} 39 0 [] [1,2,3,4,5,6] (S8 h l acc c n i) [bt,aE 1,oS (.str s),ee,.lg,ee,cR (.tup [sL 1 (List.map AV.str p),iA e,iA a]) [],bf,ee,.loopM [] [] (T8 h l acc c n i p 0) (.exit 2) (U8 h l acc c n i p),aE 1,oS (eV hx lx),bf,bf,bf,bf,bt,bt,bt,bf,bt,bf,bf,bf,bf,bf,bf,bf,bf,bf,aE 2,.lg,.lg,ee,.lg,ee,cR (.tup [iA m,bA cb]) [(100006,.arr 22 1 (List.take acc.length (ppA acc)++[sL 1 (List.map AV.str p)]) .own)],bf,ee]=.ok ((.normal,{t:=[(1,.gp 100000 0),(2,.gp 100001 0),(4,iA n),(5,.gp 100002 0),(6,iA (IntKind.i64.wrap ((i:Int)+1)))],h:=[(100000,gB (eV h l)),(100001,gB (.agg [.val (Value.slice none 0 0),bA false])),(100002,gB (.agg [.gs 100006 0 (acc.length+[sL 1 (List.map AV.str p)].length),bA (decide (hx.int=1))])),(100003,.dead),(100004,gB (eV hx lx)),(100005,.arr 22 1 [sL 1 (List.map AV.str p)] .own),(100006,.arr 22 1 (List.take acc.length (ppA acc)++[sL 1 (List.map AV.str p)]) .own)]}),[ee],(cb=false)::MZ W 60 [.gs 100006 0 (acc.length+[sL 1 (List.map AV.str p)].length)] [(100006,.arr 22 1 (List.take acc.length (ppA acc)++[sL 1 (List.map AV.str p)]) .own)] (.ret (.tup [iA m,bA cb]) [(100006,.arr 22 1 (List.take acc.length (ppA acc)++[sL 1 (List.map AV.str p)]) .own)])::cloHs [(100006,.arr 22 1 (List.take acc.length (ppA acc)++[sL 1 (List.map AV.str p)]) .own)]::((acc.length+[sL 1 (List.map AV.str p)].length) * 24<=140737488355328)::((St.own=St.own\/St.own=St.shr/\acc.length=(ppA acc).length)/\acc.length<=(ppA acc).length)::(decide (0<(i:Int))=false)::(d6 (decide (0<(i:Int))=false) (((!decide (hx.int=1))=false)::((!decide (hx.kind=3))=false)::((!decide (hx.int=0))=true)::((!decide (hx.kind=3))=false)::(d3 ((!decide (hx.int=0))=true) (d4 ((!decide (hx.kind=3))=false) [(encVs l)[(i:Int).toNat]?=some (eV hx lx),LZ W [] 39 1 (T8 h l acc c n i p 0) (.exit 2) (U8 h l acc c n i p),MatchK [] [] [] {t:=[(1,.gp 100000 0),(2,.gp 100001 0),(4,iA n),(5,.gp 100002 0),(6,iA (i:Int)),(7,sL 1 (List.map AV.str p)),(10,iA 0)],h:=[(100000,gB (eV h l)),(100001,gB (.agg [.val (Value.slice none 0 0),bA false])),(100002,gB (.agg [.gs 100003 0 acc.length,bA c])),(100003,.arr 22 1 (ppA acc) .own)]} (T8 h l acc c n i p 0),(!decide (e=0))=false,MZ W 58 [.str s] [] (.ret (.tup [sL 1 (List.map AV.str p),iA e,iA a]) []),cloHs [],(List.map AV.str h.names)[(i:Int).toNat]?=some (AV.str s),decide ((i:Int)<n)=true]))))):=kr
theorem b8x_8 (W:World) (h hx:JH) (l lx:List JV) (acc:List (List (List UInt8))) (c:Bool) (n e a:Int) (i:Nat) (s:List UInt8) (p:List (List UInt8)):sQ W {lp:=true,ol:=true,tl:=[58,60]} 39 0 [] [1,2,3,4,5,6] (S8 h l acc c n i) [bt,aE 1,oS (.str s),ee,.lg,ee,cR (.tup [sL 1 (List.map AV.str p),iA e,iA a]) [],bf,ee,.loopM [] [] (T8 h l acc c n i p 0) (.exit 2) (U8 h l acc c n i p),aE 1,oS (eV hx lx),bf,bf,bf,bf,bf,bf,bf,bf,bf,bf,aE 1,bt,bt,bt,bt,bt,bt,bt,bt,ee]=.ok ((.ret,{t:=[(1,.gp 100000 0),(2,.gp 100001 0),(3,iA 62),(4,iA n),(5,.gp 100002 0),(6,iA (i:Int))],h:=[(100000,gB (eV h l)),(100001,gB (.agg [.val (Value.slice none 0 0),bA false])),(100002,gB (.agg [.gs 100003 0 acc.length,bA c])),(100003,.arr 22 1 (ppA acc) .own),(100004,gB (eV hx lx))]}),[ee],((!c == decide (hx.int=1))=true)::(decide (0<(i:Int))=true)::(d6 (decide (0<(i:Int))=true) (((!decide (hx.kind=3))=false)::((!decide (hx.int=0))=false)::((!decide (hx.kind=3))=false)::(d3 ((!decide (hx.int=0))=false) (d4 ((!decide (hx.kind=3))=false) [(encVs l)[(i:Int).toNat]?=some (eV hx lx),LZ W [] 39 1 (T8 h l acc c n i p 0) (.exit 2) (U8 h l acc c n i p),MatchK [] [] [] {t:=[(1,.gp 100000 0),(2,.gp 100001 0),(4,iA n),(5,.gp 100002 0),(6,iA (i:Int)),(7,sL 1 (List.map AV.str p)),(10,iA 0)],h:=[(100000,gB (eV h l)),(100001,gB (.agg [.val (Value.slice none 0 0),bA false])),(100002,gB (.agg [.gs 100003 0 acc.length,bA c])),(100003,.arr 22 1 (ppA acc) .own)]} (T8 h l acc c n i p 0),(!decide (e=0))=false,MZ W 58 [.str s] [] (.ret (.tup [sL 1 (List.map AV.str p),iA e,iA a]) []),cloHs [],(List.map AV.str h.names)[(i:Int).toNat]?=some (AV.str s),decide ((i:Int)<n)=true]))))):=kr
theorem b8x_9 (W:World) (h hx:JH) (l lx:List JV) (acc:List (List (List UInt8))) (c cb:Bool) (n e a m:Int) (i:Nat) (s:List UInt8) (p:List (List UInt8)):sQ W {lp:=true,ol:=true,tl:=[58,60]} 39 0 [] [1,2,3,4,5,6] (S8 h l acc c n i) [bt,aE 1,oS (.str s),ee,.lg,ee,cR (.tup [sL 1 (List.map AV.str p),iA e,iA a]) [],bf,ee,.loopM [] [] (T8 h l acc c n i p 0) (.exit 2) (U8 h l acc c n i p),aE 1,oS (eV hx lx),bf,bf,bf,bf,bf,bf,bf,bf,bf,bf,aE 1,bt,bt,bt,bt,bt,bt,bt,bf,aE 1,.lg,.lg,ee,.lg,ee,cR (.tup [iA m,bA cb]) [(100006,.arr 22 1 (List.take acc.length (ppA acc)++[sL 1 (List.map AV.str p)]) .own)],bt,ee]=.ok ((.ret,{t:=[(1,.gp 100000 0),(2,.gp 100001 0),(3,iA 23),(4,iA n),(5,.gp 100002 0),(6,iA (i:Int))],h:=[(100000,gB (eV h l)),(100001,gB (.agg [.val (Value.slice none 0 0),bA false])),(100002,gB (.agg [.gs 100006 0 (acc.length+[sL 1 (List.map AV.str p)].length),bA (decide (hx.int=1))])),(100003,.dead),(100004,gB (eV hx lx)),(100005,.arr 22 1 [sL 1 (List.map AV.str p)] .own),(100006,.arr 22 1 (List.take acc.length (ppA acc)++[sL 1 (List.map AV.str p)]) .own)]}),[ee],(cb=true)::MZ W 60 [.gs 100006 0 (acc.length+[sL 1 (List.map AV.str p)].length)] [(100006,.arr 22 1 (List.take acc.length (ppA acc)++[sL 1 (List.map AV.str p)]) .own)] (.ret (.tup [iA m,bA cb]) [(100006,.arr 22 1 (List.take acc.length (ppA acc)++[sL 1 (List.map AV.str p)]) .own)])::cloHs [(100006,.arr 22 1 (List.take acc.length (ppA acc)++[sL 1 (List.map AV.str p)]) .own)]::((acc.length+[sL 1 (List.map AV.str p)].length) * 24<=140737488355328)::((St.own=St.own\/St.own=St.shr/\acc.length=(ppA acc).length)/\acc.length<=(ppA acc).length)::((!c == decide (hx.int=1))=false)::(decide (0<(i:Int))=true)::(d6 (decide (0<(i:Int))=true) (((!decide (hx.kind=3))=false)::((!decide (hx.int=0))=false)::((!decide (hx.kind=3))=false)::(d3 ((!decide (hx.int=0))=false) (d4 ((!decide (hx.kind=3))=false) [(encVs l)[(i:Int).toNat]?=some (eV hx lx),LZ W [] 39 1 (T8 h l acc c n i p 0) (.exit 2) (U8 h l acc c n i p),MatchK [] [] [] {t:=[(1,.gp 100000 0),(2,.gp 100001 0),(4,iA n),(5,.gp 100002 0),(6,iA (i:Int)),(7,sL 1 (List.map AV.str p)),(10,iA 0)],h:=[(100000,gB (eV h l)),(100001,gB (.agg [.val (Value.slice none 0 0),bA false])),(100002,gB (.agg [.gs 100003 0 acc.length,bA c])),(100003,.arr 22 1 (ppA acc) .own)]} (T8 h l acc c n i p 0),(!decide (e=0))=false,MZ W 58 [.str s] [] (.ret (.tup [sL 1 (List.map AV.str p),iA e,iA a]) []),cloHs [],(List.map AV.str h.names)[(i:Int).toNat]?=some (AV.str s),decide ((i:Int)<n)=true]))))):=kr
theorem b8x_10 (W:World) (h hx:JH) (l lx:List JV) (acc:List (List (List UInt8))) (c cb:Bool) (n e a m:Int) (i:Nat) (s:List UInt8) (p:List (List UInt8)):sQ W {lp:=true,ol:=true,tl:=[58,60]} 39 0 [] [1,2,3,4,5,6] (S8 h l acc c n i) [bt,aE 1,oS (.str s),ee,.lg,ee,cR (.tup [sL 1 (List.map AV.str p),iA e,iA a]) [],bf,ee,.loopM [] [] (T8 h l acc c n i p 0) (.exit 2) (U8 h l acc c n i p),aE 1,oS (eV hx lx),bf,bf,bf,bf,bf,bf,bf,bf,bf,bf,aE 1,bt,bt,bt,bt,bt,bt,bt,bf,aE 1,.lg,.lg,ee,.lg,ee,cR (.tup [iA m,bA cb]) [(100006,.arr 22 1 (List.take acc.length (ppA acc)++[sL 1 (List.map AV.str p)]) .own)],bf,ee]=.ok ((.normal,{t:=[(1,.gp 100000 0),(2,.gp 100001 0),(4,iA n),(5,.gp 100002 0),(6,iA (IntKind.i64.wrap ((i:Int)+1)))],h:=[(100000,gB (eV h l)),(100001,gB (.agg [.val (Value.slice none 0 0),bA false])),(100002,gB (.agg [.gs 100006 0 (acc.length+[sL 1 (List.map AV.str p)].length),bA (decide (hx.int=1))])),(100003,.dead),(100004,gB (eV hx lx)),(100005,.arr 22 1 [sL 1 (List.map AV.str p)] .own),(100006,.arr 22 1 (List.take acc.length (ppA acc)++[sL 1 (List.map AV.str p)]) .own)]}),[ee],(cb=false)::MZ W 60 [.gs 100006 0 (acc.length+[sL 1 (List.map AV.str p)].length)] [(100006,.arr 22 1 (List.take acc.length (ppA acc)++[sL 1 (List.map AV.str p)]) .own)] (.ret (.tup [iA m,bA cb]) [(100006,.arr 22 1 (List.take acc.length (ppA acc)++[sL 1 (List.map AV.str p)]) .own)])::cloHs [(100006,.arr 22 1 (List.take acc.length (ppA acc)++[sL 1 (List.map AV.str p)]) .own)]::((acc.length+[sL 1 (List.map AV.str p)].length) * 24<=140737488355328)::((St.own=St.own\/St.own=St.shr/\acc.length=(ppA acc).length)/\acc.length<=(ppA acc).length)::((!c == decide (hx.int=1))=false)::(decide (0<(i:Int))=true)::(d6 (decide (0<(i:Int))=true) (((!decide (hx.kind=3))=false)::((!decide (hx.int=0))=false)::((!decide (hx.kind=3))=false)::(d3 ((!decide (hx.int=0))=false) (d4 ((!decide (hx.kind=3))=false) [(encVs l)[(i:Int).toNat]?=some (eV hx lx),LZ W [] 39 1 (T8 h l acc c n i p 0) (.exit 2) (U8 h l acc c n i p),MatchK [] [] [] {t:=[(1,.gp 100000 0),(2,.gp 100001 0),(4,iA n),(5,.gp 100002 0),(6,iA (i:Int)),(7,sL 1 (List.map AV.str p)),(10,iA 0)],h:=[(100000,gB (eV h l)),(100001,gB (.agg [.val (Value.slice none 0 0),bA false])),(100002,gB (.agg [.gs 100003 0 acc.length,bA c])),(100003,.arr 22 1 (ppA acc) .own)]} (T8 h l acc c n i p 0),(!decide (e=0))=false,MZ W 58 [.str s] [] (.ret (.tup [sL 1 (List.map AV.str p),iA e,iA a]) []),cloHs [],(List.map AV.str h.names)[(i:Int).toNat]?=some (AV.str s),decide ((i:Int)<n)=true]))))):=kr
theorem b8x_11 (W:World) (h hx:JH) (l lx:List JV) (acc:List (List (List UInt8))) (c cb:Bool) (n e a m:Int) (i:Nat) (s:List UInt8) (p:List (List UInt8)):sQ W {lp:=true,ol:=true,tl:=[58,60]} 39 0 [] [1,2,3,4,5,6] (S8 h l acc c n i) [bt,aE 1,oS (.str s),ee,.lg,ee,cR (.tup [sL 1 (List.map AV.str p),iA e,iA a]) [],bf,ee,.loopM [] [] (T8 h l acc c n i p 0) (.exit 2) (U8 h l acc c n i p),aE 1,oS (eV hx lx),bf,bf,bf,bf,bf,bf,bf,bf,bf,bf,aE 1,bf,bf,bf,bf,bf,bf,bf,aE 2,.lg,.lg,ee,.lg,ee,cR (.tup [iA m,bA cb]) [(100006,.arr 22 1 (List.take acc.length (ppA acc)++[sL 1 (List.map AV.str p)]) .own)],bt,ee]=.ok ((.ret,{t:=[(1,.gp 100000 0),(2,.gp 100001 0),(3,iA 23),(4,iA n),(5,.gp 100002 0),(6,iA (i:Int))],h:=[(100000,gB (eV h l)),(100001,gB (.agg [.val (Value.slice none 0 0),bA false])),(100002,gB (.agg [.gs 100006 0 (acc.length+[sL 1 (List.map AV.str p)].length),bA (decide (hx.int=1))])),(100003,.dead),(100004,gB (eV hx lx)),(100005,.arr 22 1 [sL 1 (List.map AV.str p)] .own),(100006,.arr 22 1 (List.take acc.length (ppA acc)++[sL 1 (List.map AV.str p)]) .own)]}),[ee],(cb=true)::MZ W 60 [.gs 100006 0 (acc.length+[sL 1 (List.map AV.str p)].length)] [(100006,.arr 22 1 (List.take acc.length (ppA acc)++[sL 1 (List.map AV.str p)]) .own)] (.ret (.tup [iA m,bA cb]) [(100006,.arr 22 1 (List.take acc.length (ppA acc)++[sL 1 (List.map AV.str p)]) .own)])::cloHs [(100006,.arr 22 1 (List.take acc.length (ppA acc)++[sL 1 (List.map AV.str p)]) .own)]::((acc.length+[sL 1 (List.map AV.str p)].length) * 24<=140737488355328)::((St.own=St.own\/St.own=St.shr/\acc.length=(ppA acc).length)/\acc.length<=(ppA acc).length)::(decide (0<(i:Int))=false)::(d6 (decide (0<(i:Int))=false) (((!decide (hx.kind=3))=false)::((!decide (hx.int=0))=false)::((!decide (hx.kind=3))=false)::(d3 ((!decide (hx.int=0))=false) (d4 ((!decide (hx.kind=3))=false) [(encVs l)[(i:Int).toNat]?=some (eV hx lx),LZ W [] 39 1 (T8 h l acc c n i p 0) (.exit 2) (U8 h l acc c n i p),MatchK [] [] [] {t:=[(1,.gp 100000 0),(2,.gp 100001 0),(4,iA n),(5,.gp 100002 0),(6,iA (i:Int)),(7,sL 1 (List.map AV.str p)),(10,iA 0)],h:=[(100000,gB (eV h l)),(100001,gB (.agg [.val (Value.slice none 0 0),bA false])),(100002,gB (.agg [.gs 100003 0 acc.length,bA c])),(100003,.arr 22 1 (ppA acc) .own)]} (T8 h l acc c n i p 0),(!decide (e=0))=false,MZ W 58 [.str s] [] (.ret (.tup [sL 1 (List.map AV.str p),iA e,iA a]) []),cloHs [],(List.map AV.str h.names)[(i:Int).toNat]?=some (AV.str s),decide ((i:Int)<n)=true]))))):=kr
theorem b8x_12 (W:World) (h hx:JH) (l lx:List JV) (acc:List (List (List UInt8))) (c cb:Bool) (n e a m:Int) (i:Nat) (s:List UInt8) (p:List (List UInt8)):sQ W {lp:=true,ol:=true,tl:=[58,60]} 39 0 [] [1,2,3,4,5,6] (S8 h l acc c n i) [bt,aE 1,oS (.str s),ee,.lg,ee,cR (.tup [sL 1 (List.map AV.str p),iA e,iA a]) [],bf,ee,.loopM [] [] (T8 h l acc c n i p 0) (.exit 2) (U8 h l acc c n i p),aE 1,oS (eV hx lx),bf,bf,bf,bf,bf,bf,bf,bf,bf,bf,aE 1,bf,bf,bf,bf,bf,bf,bf,aE 2,.lg,.lg,ee,.lg,ee,cR (.tup [iA m,bA cb]) [(100006,.arr 22 1 (List.take acc.length (ppA acc)++[sL 1 (List.map AV.str p)]) .own)],bf,ee]=.ok ((.normal,{t:=[(1,.gp 100000 0),(2,.gp 100001 0),(4,iA n),(5,.gp 100002 0),(6,iA (IntKind.i64.wrap ((i:Int)+1)))],h:=[(100000,gB (eV h l)),(100001,gB (.agg [.val (Value.slice none 0 0),bA false])),(100002,gB (.agg [.gs 100006 0 (acc.length+[sL 1 (List.map AV.str p)].length),bA (decide (hx.int=1))])),(100003,.dead),(100004,gB (eV hx lx)),(100005,.arr 22 1 [sL 1 (List.map AV.str p)] .own),(100006,.arr 22 1 (List.take acc.length (ppA acc)++[sL 1 (List.map AV.str p)]) .own)]}),[ee],(cb=false)::MZ W 60 [.gs 100006 0 (acc.length+[sL 1 (List.map AV.str p)].length)] [(100006,.arr 22 1 (List.take acc.length (ppA acc)++[sL 1 (List.map AV.str p)]) .own)] (.ret (.tup [iA m,bA cb]) [(100006,.arr 22 1 (List.take acc.length (ppA acc)++[sL 1 (List.map AV.str p)]) .own)])::cloHs [(100006,.arr 22 1 (List.take acc.length (ppA acc)++[sL 1 (List.map AV.str p)]) .own)]::((acc.length+[sL 1 (List.map AV.str p)].length) * 24<=140737488355328)::((St.own=St.own\/St.own=St.shr/\acc.length=(ppA acc).length)/\acc.length<=(ppA acc).length)::(decide (0<(i:Int))=false)::(d6 (decide (0<(i:Int))=false) (((!decide (hx.kind=3))=false)::((!decide (hx.int=0))=false)::((!decide (hx.kind=3))=false)::(d3 ((!decide (hx.int=0))=false) (d4 ((!decide (hx.kind=3))=false) [(encVs l)[(i:Int).toNat]?=some (eV hx lx),LZ W [] 39 1 (T8 h l acc c n i p 0) (.exit 2) (U8 h l acc c n i p),MatchK [] [] [] {t:=[(1,.gp 100000 0),(2,.gp 100001 0),(4,iA n),(5,.gp 100002 0),(6,iA (i:Int)),(7,sL 1 (List.map AV.str p)),(10,iA 0)],h:=[(100000,gB (eV h l)),(100001,gB (.agg [.val (Value.slice none 0 0),bA false])),(100002,gB (.agg [.gs 100003 0 acc.length,bA c])),(100003,.arr 22 1 (ppA acc) .own)]} (T8 h l acc c n i p 0),(!decide (e=0))=false,MZ W 58 [.str s] [] (.ret (.tup [sL 1 (List.map AV.str p),iA e,iA a]) []),cloHs [],(List.map AV.str h.names)[(i:Int).toNat]?=some (AV.str s),decide ((i:Int)<n)=true]))))):=kr
theorem b8x_13 (W:World) (h:JH) (l:List JV) (acc:List (List (List UInt8))) (c:Bool) (n:Int) (i:Nat):sQ W {lp:=true,ol:=true,tl:=[58,60]} 39 0 [] [1,2,3,4,5,6] (S8 h l acc c n i) [bf,ee]=.ok ((.exit 0,{t:=[(1,.gp 100000 0),(2,.gp 100001 0),(4,iA n),(5,.gp 100002 0),(6,iA (i:Int))],h:=[(100000,gB (eV h l)),(100001,gB (.agg [.val (Value.slice none 0 0),bA false])),(100002,gB (.agg [.gs 100003 0 acc.length,bA c])),(100003,.arr 22 1 (ppA acc) .own)]}),[ee],[decide ((i:Int)<n)=false]):=kr
theorem b8r_1 (W:World) (h:JH) (l:List JV) (acc:List (List (List UInt8))) (c:Bool) (n e a:Int) (i:Nat) (s:List UInt8) (p:List (List UInt8)):sQ W {lp:=true,ol:=true,tl:=[58,60]} 39 0 [] [1,2,3,4,5,6] (S8 h l acc c n i) [bt,aE 1,oS (.str s),ee,.lg,ee,cR (.tup [sL 1 (List.map AV.str p),iA e,iA a]) [],bf,ee,.loopM [] [] (T8 h l acc c n i p 0) .ret (R8 20),ee]=.ok ((.ret,{t:=[(2,.gp 100001 0),(3,iA 20)],h:=[(100001,gB (.agg [.val (Value.slice none 0 0),bA false]))]}),[ee],[LZ W [] 39 1 (T8 h l acc c n i p 0) .ret (R8 20),MatchK [] [] [] {t:=[(1,.gp 100000 0),(2,.gp 100001 0),(4,iA n),(5,.gp 100002 0),(6,iA (i:Int)),(7,sL 1 (List.map AV.str p)),(10,iA 0)],h:=[(100000,gB (eV h l)),(100001,gB (.agg [.val (Value.slice none 0 0),bA false])),(100002,gB (.agg [.gs 100003 0 acc.length,bA c])),(100003,.arr 22 1 (ppA acc) .own)]} (T8 h l acc c n i p 0),(!decide (e=0))=false,MZ W 58 [.str s] [] (.ret (.tup [sL 1 (List.map AV.str p),iA e,iA a]) []),cloHs [],(List.map AV.str h.names)[(i:Int).toNat]?=some (AV.str s),decide ((i:Int)<n)=true]):=kr
theorem d8_0 (W:World) (h:JH) (l:List JV) (acc:List (List (List UInt8))) (c:Bool) (n:Int) (i k:Nat) (x:List UInt8) (p:List (List UInt8)):sQ W {lp:=true,ol:=true,tl:=[59]} 39 1 [] [1,2,3,4,5,6,7,10] (T8 h l acc c n i p k) [bt,aE 1,oS (.str x),ee,.lg,ee,cR (idxA x) [],bt,ee]=.ok ((.ret,{t:=[(1,.gp 100000 0),(2,.gp 100001 0),(3,iA 20),(4,iA n),(5,.gp 100002 0),(6,iA (i:Int)),(7,sL 1 (List.map AV.str p)),(10,iA (k:Int))],h:=[(100000,gB (eV h l)),(100001,gB (.agg [.val (Value.slice none 0 0),bA false])),(100002,gB (.agg [.gs 100003 0 acc.length,bA c])),(100003,.arr 22 1 (ppA acc) .own)]}),[ee],[idxOk x=true,MZ W 59 [.str x] [] (.ret (.tup [iA (↑(idx x):Int),bA (idxOk x)]) []),cloHs [],(List.map AV.str p)[(k:Int).toNat]?=some (AV.str x),decide ((k:Int)<(↑(List.map AV.str p).length:Int))=true]):=kr
theorem d8_1 (W:World) (h:JH) (l:List JV) (acc:List (List (List UInt8))) (c:Bool) (n:Int) (i k:Nat) (x:List UInt8) (p:List (List UInt8)):sQ W {lp:=true,ol:=true,tl:=[59]} 39 1 [] [1,2,3,4,5,6,7,10] (T8 h l acc c n i p k) [bt,aE 1,oS (.str x),ee,.lg,ee,cR (idxA x) [],bf,ee]=.ok ((.normal,{t:=[(1,.gp 100000 0),(2,.gp 100001 0),(4,iA n),(5,.gp 100002 0),(6,iA (i:Int)),(7,sL 1 (List.map AV.str p)),(10,iA (IntKind.i64.wrap ((k:Int)+1)))],h:=[(100000,gB (eV h l)),(100001,gB (.agg [.val (Value.slice none 0 0),bA false])),(100002,gB (.agg [.gs 100003 0 acc.length,bA c])),(100003,.arr 22 1 (ppA acc) .own)]}),[ee],[idxOk x=false,MZ W 59 [.str x] [] (.ret (.tup [iA (↑(idx x):Int),bA (idxOk x)]) []),cloHs [],(List.map AV.str p)[(k:Int).toNat]?=some (AV.str x),decide ((k:Int)<(↑(List.map AV.str p).length:Int))=true]):=kr
theorem d8_2 (W:World) (h:JH) (l:List JV) (acc:List (List (List UInt8))) (c:Bool) (n:Int) (i k:Nat) (p:List (List UInt8)):sQ W {lp:=true,ol:=true,tl:=[59]} 39 1 [] [1,2,3,4,5,6,7,10] (T8 h l acc c n i p k) [bf,ee]=.ok ((.exit 2,{t:=[(1,.gp 100000 0),(2,.gp 100001 0),(4,iA n),(5,.gp 100002 0),(6,iA (i:Int)),(7,sL 1 (List.map AV.str p)),(10,iA (k:Int))],h:=[(100000,gB (eV h l)),(100001,gB (.agg [.val (Value.slice none 0 0),bA false])),(100002,gB (.agg [.gs 100003 0 acc.length,bA c])),(100003,.arr 22 1 (ppA acc) .own)]}),[ee],[decide ((k:Int)<(↑(List.map AV.str p).length:Int))=false]):=kr
theorem zhq {p:Prop} (h:p:=by and_intros<;>first|exact trivial|exact gOK_ph' rfl (by decide) rfl|exact gOK_eq rfl rfl rfl|(refine gOK_box rfl rfl rfl ?_;exact zp)|exact gOK_arr rfl rfl rfl (by assumption)|exact gOK_arr rfl rfl hset (by assumption)):p:=h
theorem zpq {φ ph x y} (h:LeP φ ph x y:=by first|exact zl|exact .eq (congrArg (AV.gs _ 0) hgl) rfl):LeP φ ph x y:=h
theorem zpp {φ ph x y} (h:LeP φ ph x y:=by first|exact zp|exact zpq|(refine .aggL ?_;repeat' (first|exact LePL.nil|refine LePL.cons ?_ ?_));all_goals exact zpq):LeP φ ph x y:=h
theorem ztq {p:Prop} (h:p:=by and_intros<;>first|exact trivial|exact zpp):p:=h
theorem zhr {p:Prop} (h:p:=by and_intros<;>first|exact trivial|exact gOK_ph' rfl (by decide) rfl|exact gOK_eq rfl rfl rfl|(refine gOK_box rfl rfl rfl ?_;exact zpp)|exact gOK_arr rfl rfl rfl (by assumption)|exact gOK_arr rfl rfl hset (by assumption)):p:=h
theorem Tf_z1 {kp f ph σ σ'} (h:MatchK kp f ph σ σ':=by exact ⟨by rfl,(by simp only [zF,H8,S8,T8,U8,E8,R8,H9,S9,T9,U9,E9,R9,tOK,List.map_cons,List.map_nil,and_true]<;>exact ztq),(by simp only [zF,H8,S8,T8,U8,E8,R8,H9,S9,T9,U9,E9,R9,hOK,List.map_cons,List.map_nil,and_true]<;>exact zhr),(by simp only [zF,H8,S8,T8,U8,E8,R8,H9,S9,T9,U9,E9,R9,liveT,List.map_cons,List.map_nil,and_true]<;>exact zvp),(by simp only [zF,H8,S8,T8,U8,E8,R8,H9,S9,T9,U9,E9,R9,liveH,List.map_cons,List.map_nil,and_true]<;>exact zvp)⟩):MatchK kp f ph σ σ':=h
theorem Tf_z2 {cs} (h:Holds cs:=by simp only [Holds,cloHs,and_true]<;>and_intros<;>first|assumption|exact zd|exact .inl rfl|exact Nat.le_of_eq (ppA_len _).symm|(simp only [List.length_cons,List.length_nil];omega)|exact Tf_z1):Holds cs:=h
theorem call39:callable Tryz.prog 39=true:=kr
theorem call55:callable Tryz.prog 55=true:=kr
def pfR (N:List (List UInt8)) (l:List JV):Nat->Nat->List (List (List UInt8))->Bool->Except Int (List (List (List UInt8))×Bool)
 | 0,_,acc,c=>.ok (acc,c)
 | q+1,i,acc,c=>match N[i]?,l[i]? with
  | some s,some x =>
   if parseE s ≠ 0 then .error 20
   else if (parseP s).any idxOk=true then .error 20
   else if x.kind ≠ 3\/(x.int ≠ 0/\x.int ≠ 1) then .error 61
   else if 0<i/\c ≠ decide (x.int=1) then .error 62
   else if anyC (parseP s) acc=true then .error 23
   else pfR N l q (i+1) (acc++[parseP s]) (decide (x.int=1))
  | _,_=>.error 20
def pfV (v:JV):Except Int (List (List (List UInt8))×Bool) :=
 if v.kind ≠ 6 then .error 61 else if 32<min v.names.length v.items.length then .error 43 else pfR v.names v.items (min v.names.length v.items.length) 0 [] false
theorem bne_t {c d:Bool} (h:c ≠ d):(!c == d)=true:=by cases c<;>cases d<;>first|rfl|exact absurd rfl h
theorem bne_f {c d:Bool} (h:¬ c ≠ d):(!c == d)=false:=by cases c<;>cases d<;>first|rfl|(exfalso;exact h (by decide))
section
variable (W:World)
theorem any8 (h:JH) (l:List JV) (acc:List (List (List UInt8))) (c:Bool) (n:Int) (i:Nat) (p:List (List UInt8)) (hp16:p.length<=16):∀ (j k:Nat),p.length - k=j->k<=p.length →
 ((p.drop k).any idxOk=false/\LoopC Tryz.prog W [] (nslots Tryz.prog 39) (loopOf Tryz.prog 39 1) (T8 h l acc c n i p k) (.exit 2) (U8 h l acc c n i p))\/((p.drop k).any idxOk=true/\LoopC Tryz.prog W [] (nslots Tryz.prog 39) (loopOf Tryz.prog 39 1) (T8 h l acc c n i p k) .ret (R8 20)):=by
 have hcl:=ppA_clo acc
 intro j
 induction j with
 | zero =>
  intro k hj hk
  have e:decide ((k:Int)<(((p.map AV.str).length:Nat):Int))=false:=by rw [List.length_map];exact decide_eq_false (by omega)
  rw [List.drop_of_length_le (l:=p) (by omega)]
  exact .inl ⟨rfl,loop_last (by simp) (body_of_sbodyK mixedz (d8_2 W h l acc c n i k p) Tf_z2 [] [] Tf_z1)⟩
 | succ j ihj =>
  intro k hj hk
  obtain ⟨x,hx⟩:=getOf (l:=p) (i:=k) (by omega)
  have e:decide ((k:Int)<(((p.map AV.str).length:Nat):Int))=true:=by rw [List.length_map];exact decide_eq_true (by omega)
  have hget:(p.map AV.str)[((k:Int)).toNat]?=some (AV.str x):=by rw [Int.toNat_natCast];exact strs_get hx
  have hws:IntKind.i64.wrap ((k:Int)+1)=((k+1:Nat):Int):=wrap_succ (by omega)
  have hc:MutC Tryz.prog W 59 [.str x] [] (.ret (idxA x) []):=mut_of_pure (by rfl) (index71 W x)
  unfold idxA at hc
  rw [drop_get hx,List.any_cons]
  cases hi:idxOk x with
  | true=>exact .inr ⟨rfl,loop_last (by simp) (body_of_sbodyK mixedz (d8_0 W h l acc c n i k x p) Tf_z2 [] [] Tf_z1)⟩
  | false =>
   rw [Bool.false_or]
   have hb:=body_of_sbodyK mixedz (d8_1 W h l acc c n i k x p) Tf_z2 [] [] (σ3:=T8 h l acc c n i p (k+1)) Tf_z1
   rcases ihj (k+1) (by omega) (by omega) with ⟨g1,g2⟩|⟨g1,g2⟩
   ·exact .inl ⟨g1,loop_next hb g2⟩
   ·exact .inr ⟨g1,loop_next hb g2⟩
theorem m60 (qs:List (List (List UInt8))) (n:Nat) (hn:n=qs.length) (h1:qs.length<=2 ^ 30) (h2:∀ p ∈ qs,p.length<=16):∃ m:Int,MutC Tryz.prog W 60 [.gs 100006 0 n] [(100006,.arr 22 1 (ppA qs) .own)] (.ret (.tup [iA m,bA (cB qs)]) [(100006,.arr 22 1 (ppA qs) .own)]):=by
 subst hn
 obtain ⟨m,hm⟩:=clashes24 W qs h1 fun p hp=>by have:=h2 p hp;omega
 have e:clL [(100006,.arr 22 1 (ppA qs) .own)] [.gs 100006 0 qs.length]=[.sl 1 (ppA qs) []]:=by
  simp [clA,clL,lk,ppA_len];try exact List.take_of_length_le (by simp [ppA_len])
 refine ⟨m,mut_of_pureFlat (frz2 rfl (ppA_clo qs)) rfl (by rw [e];simp [cloL,AV.clo,ppA_clo]) rfl (by rw [e];exact hm)⟩
theorem ppA_push (acc:List (List (List UInt8))) (p:List (List UInt8)):List.take acc.length (ppA acc)++[AV.sl 1 (p.map AV.str) []]=ppA (acc++[p]):=by
 rw [<-ppA_len acc,List.take_length];unfold ppA;rw [List.map_append];rfl
theorem loop39 (h:JH) (l:List JV) (N:Nat) (h32:N<=32) (hmn:N<=h.names.length) (hml:N<=l.length) (hN:∀ s ∈ h.names,s.length<=2 ^ 30):∀ (q i:Nat) (acc:List (List (List UInt8))) (c:Bool),i+q=N->acc.length=i->cB acc=false->(∀ p ∈ acc,p.length<=16) →
 (∃ A C,pfR h.names l q i acc c=.ok (A,C)/\LoopC Tryz.prog W [] (nslots Tryz.prog 39) (loopOf Tryz.prog 39 0) (S8 h l acc c N i) (.exit 0) (E8 A C))\/(∃ e,pfR h.names l q i acc c=.error e/\LoopC Tryz.prog W [] (nslots Tryz.prog 39) (loopOf Tryz.prog 39 0) (S8 h l acc c N i) .ret (R8 e)):=by
 intro q
 induction q with
 | zero =>
  intro i acc c hq hi hB h16
  have hcl:=ppA_clo acc
  have e:decide ((i:Int)<(N:Int))=false:=decide_eq_false (by omega)
  clear hN
  exact .inl ⟨acc,c,rfl,loop_last (by simp) (body_of_sbodyK mixedz (b8x_13 W h l acc c N i) Tf_z2 [] [] Tf_z1)⟩
 | succ q ih =>
  intro i acc c hq hi hB h16
  have hcl:=ppA_clo acc
  obtain ⟨s,hs⟩:=getOf (l:=h.names) (i:=i) (by omega)
  obtain ⟨x,hx⟩:=getOf (l:=l) (i:=i) (by omega)
  have hsl:=hN s (List.mem_of_getElem? hs)
  have c0:decide ((i:Int)<(N:Int))=true:=decide_eq_true (by omega)
  have hgs:(List.map AV.str h.names)[((i:Int)).toNat]?=some (AV.str s):=by rw [Int.toNat_natCast];exact strs_get hs
  have hgx:(encVs l)[((i:Int)).toNat]?=some (encV x):=by rw [Int.toNat_natCast];exact encVs_get hx
  have hws:IntKind.i64.wrap ((i:Int)+1)=((i+1:Nat):Int):=wrap_succ (by omega)
  have hP:MutC Tryz.prog W 58 [.str s] [] (.ret (parseAV s) []):=mut_of_pure (by rfl) (Parse23 W s hsl)
  unfold parseAV at hP
  have hp16:=parse_len s
  have hl2:(acc++[parseP s]).length=acc.length+1:=by simp
  have hB2:cB (acc++[parseP s])=anyC (parseP s) acc:=by rw [cB_app,hB,Bool.false_or]
  have h162:∀ q ∈ acc++[parseP s],q.length<=16:=by
   intro q hq
   rcases List.mem_append.1 hq with hq|hq
   ·exact h16 q hq
   ·obtain rfl:=List.mem_singleton.1 hq;exact hp16
  obtain ⟨m,h60⟩:=m60 W (acc++[parseP s]) (acc.length+1) hl2.symm (by omega) h162
  obtain ⟨hx',lx⟩:=x
  have nx:=fun hc=>ih (i+1) (acc++[parseP s]) (decide (hx'.int=1)) (by omega) (by omega) hc h162
  have hset:=ppA_push acc (parseP s)
  have hcl2:=ppA_clo (acc++[parseP s])
  have hcl3:cloL (List.take acc.length (ppA acc)++[AV.sl 1 ((parseP s).map AV.str) []])=true:=by rw [hset];exact hcl2
  rw [<-hset,hB2] at h60
  rw [hB2] at nx
  have hA:=any8 W h l acc c N i (parseP s) hp16 (parseP s).length 0 (by omega) (by omega)
  rw [List.drop_zero] at hA
  rw [pfR,hs,hx]
  simp only
  clear hN ih h16 h162 hB2
  have hlen32:acc.length<32:=by omega
  by_cases he:parseE s=0
  case neg =>
   have c1:(!decide (parseE s=0))=true:=by rw [decide_eq_false he];rfl
   rw [if_pos he]
   clear nx h60
   exact .inr ⟨20,rfl,loop_last (by simp) (body_of_sbodyK mixedz (b8x_0 W h l acc c N _ _ i s _) Tf_z2 [] [] Tf_z1)⟩
  have c1:(!decide (parseE s=0))=false:=by rw [decide_eq_true he];rfl
  rw [if_neg (by simp [he])]
  generalize parseE s=e at *
  generalize parseA s=a at *
  generalize parseP s=p at *
  rcases hA with ⟨g,hA⟩|⟨g,hA⟩
  case inr =>
   rw [if_pos g]
   clear nx h60
   exact .inr ⟨20,rfl,loop_last (by simp) (body_of_sbodyK mixedz (b8r_1 W h l acc c N e a i s p) Tf_z2 [] [] Tf_z1)⟩
  rw [if_neg (by rw [g];simp)]
  show (∃ A C,(if hx'.kind ≠ 3\/hx'.int ≠ 0/\hx'.int ≠ 1 then Except.error 61 else if 0<i/\c ≠ decide (hx'.int=1) then Except.error 62 else if anyC p acc=true then Except.error 23 else pfR h.names l q (i+1) (acc++[p]) (decide (hx'.int=1)))=.ok (A,C)/\LoopC Tryz.prog W [] (nslots Tryz.prog 39) (loopOf Tryz.prog 39 0) (S8 h l acc c N i) (.exit 0) (E8 A C))\/(∃ e,(if hx'.kind ≠ 3\/hx'.int ≠ 0/\hx'.int ≠ 1 then Except.error 61 else if 0<i/\c ≠ decide (hx'.int=1) then Except.error 62 else if anyC p acc=true then Except.error 23 else pfR h.names l q (i+1) (acc++[p]) (decide (hx'.int=1)))=.error e/\LoopC Tryz.prog W [] (nslots Tryz.prog 39) (loopOf Tryz.prog 39 0) (S8 h l acc c N i) .ret (R8 e))
  by_cases hk:hx'.kind=3
  case neg =>
   have c2:(!decide (hx'.kind=3))=true:=by rw [decide_eq_false hk];rfl
   rw [if_pos (show hx'.kind ≠ 3\/hx'.int ≠ 0/\hx'.int ≠ 1 from .inl hk)]
   clear nx h60
   exact .inr ⟨61,rfl,loop_last (by simp) (body_of_sbodyK mixedz (b8x_1 W h hx' l lx acc c N e a i s p) Tf_z2 [] [] Tf_z1)⟩
  have c2:(!decide (hx'.kind=3))=false:=by rw [decide_eq_true hk];rfl
  have bad:hx'.int=0\/hx'.int=1->¬ (hx'.kind ≠ 3\/(hx'.int ≠ 0/\hx'.int ≠ 1)):=fun h1 h2=>h2.elim (fun h=>h hk) fun h=>h1.elim h.1 h.2
  have fin:(hx'.int=0\/hx'.int=1)->(0<i->(!c == decide (hx'.int=1))=true->LoopC Tryz.prog W [] (nslots Tryz.prog 39) (loopOf Tryz.prog 39 0) (S8 h l acc c N i) .ret (R8 62)) →
   ((0<i->(!c == decide (hx'.int=1))=false)->anyC p acc=true->LoopC Tryz.prog W [] (nslots Tryz.prog 39) (loopOf Tryz.prog 39 0) (S8 h l acc c N i) .ret (R8 23)) →
   ((0<i->(!c == decide (hx'.int=1))=false)->anyC p acc=false->∀ e σ,LoopC Tryz.prog W [] (nslots Tryz.prog 39) (loopOf Tryz.prog 39 0) (S8 h l (acc++[p]) (decide (hx'.int=1)) N (i+1)) e σ->LoopC Tryz.prog W [] (nslots Tryz.prog 39) (loopOf Tryz.prog 39 0) (S8 h l acc c N i) e σ) →
   (∃ A C,(if hx'.kind ≠ 3\/hx'.int ≠ 0/\hx'.int ≠ 1 then Except.error 61 else if 0<i/\c ≠ decide (hx'.int=1) then Except.error 62 else if anyC p acc=true then Except.error 23 else pfR h.names l q (i+1) (acc++[p]) (decide (hx'.int=1)))=.ok (A,C)/\LoopC Tryz.prog W [] (nslots Tryz.prog 39) (loopOf Tryz.prog 39 0) (S8 h l acc c N i) (.exit 0) (E8 A C))\/(∃ e,(if hx'.kind ≠ 3\/hx'.int ≠ 0/\hx'.int ≠ 1 then Except.error 61 else if 0<i/\c ≠ decide (hx'.int=1) then Except.error 62 else if anyC p acc=true then Except.error 23 else pfR h.names l q (i+1) (acc++[p]) (decide (hx'.int=1)))=.error e/\LoopC Tryz.prog W [] (nslots Tryz.prog 39) (loopOf Tryz.prog 39 0) (S8 h l acc c N i) .ret (R8 e)):=by
   intro h01 f62 f23 fok
   rw [if_neg (bad h01)]
   by_cases h62:0<i/\c ≠ decide (hx'.int=1)
   ·rw [if_pos h62]
    exact .inr ⟨62,rfl,f62 h62.1 (bne_t h62.2)⟩
   ·rw [if_neg h62]
    have h62':0<i->(!c == decide (hx'.int=1))=false:=fun h0=>bne_f fun h1=>h62 ⟨h0,h1⟩
    cases hy:anyC p acc with
    | true=>rw [if_pos rfl];exact .inr ⟨23,rfl,f23 h62' hy⟩
    | false =>
     rw [if_neg (by simp)]
     rcases nx hy with ⟨A,C,n1,n2⟩|⟨e,n1,n2⟩
     ·exact .inl ⟨A,C,n1,fok h62' hy _ _ n2⟩
     ·exact .inr ⟨e,n1,fok h62' hy _ _ n2⟩
  clear nx
  by_cases h0:hx'.int=0
  ·have c3:(!decide (hx'.int=0))=false:=by rw [decide_eq_true h0];rfl
   refine fin (.inl h0) (fun hi0 c4=>?_) (fun hc hy=>?_) (fun hc hy e2 σ2 n1=>?_)
   ·have c5:decide ((0:Int)<(i:Int))=true:=decide_eq_true (by omega)
    clear fin bad h60
    exact loop_last (by simp) (body_of_sbodyK mixedz (b8x_8 W h hx' l lx acc c N e a i s p) Tf_z2 [] [] Tf_z1)
   ·rw [hy] at h60
    clear fin bad
    by_cases hi0:0<i
    ·have c5:decide ((0:Int)<(i:Int))=true:=decide_eq_true (by omega)
     have c4:=hc hi0
     exact loop_last (by simp) (body_of_sbodyK mixedz (b8x_9 W h hx' l lx acc c true N e a m i s p) Tf_z2 [] [] Tf_z1)
    ·have c5:decide ((0:Int)<(i:Int))=false:=decide_eq_false (by omega)
     exact loop_last (by simp) (body_of_sbodyK mixedz (b8x_11 W h hx' l lx acc c true N e a m i s p) Tf_z2 [] [] Tf_z1)
   ·rw [hy] at h60
    clear fin bad
    have hgl:acc.length+[AV.sl 1 (p.map AV.str) []].length=(acc++[p]).length:=by rw [List.length_append];rfl
    by_cases hi0:0<i
    ·have c5:decide ((0:Int)<(i:Int))=true:=decide_eq_true (by omega)
     have c4:=hc hi0
     exact loop_next (body_of_sbodyK mixedz (b8x_10 W h hx' l lx acc c false N e a m i s p) (by clear n1;exact Tf_z2) [(100003,100006)] [] (σ3:=S8 h l (acc++[p]) (decide (hx'.int=1)) N (i+1)) (by clear n1;exact Tf_z1)) n1
    ·have c5:decide ((0:Int)<(i:Int))=false:=decide_eq_false (by omega)
     exact loop_next (body_of_sbodyK mixedz (b8x_12 W h hx' l lx acc c false N e a m i s p) (by clear n1;exact Tf_z2) [(100003,100006)] [] (σ3:=S8 h l (acc++[p]) (decide (hx'.int=1)) N (i+1)) (by clear n1;exact Tf_z1)) n1
  have c3:(!decide (hx'.int=0))=true:=by rw [decide_eq_false h0];rfl
  by_cases h1:hx'.int=1
  ·have c6:(!decide (hx'.int=1))=false:=by rw [decide_eq_true h1];rfl
   refine fin (.inr h1) (fun hi0 c4=>?_) (fun hc hy=>?_) (fun hc hy e2 σ2 n1=>?_)
   ·have c5:decide ((0:Int)<(i:Int))=true:=decide_eq_true (by omega)
    clear fin bad h60
    exact loop_last (by simp) (body_of_sbodyK mixedz (b8x_3 W h hx' l lx acc c N e a i s p) Tf_z2 [] [] Tf_z1)
   ·rw [hy] at h60
    clear fin bad
    by_cases hi0:0<i
    ·have c5:decide ((0:Int)<(i:Int))=true:=decide_eq_true (by omega)
     have c4:=hc hi0
     exact loop_last (by simp) (body_of_sbodyK mixedz (b8x_4 W h hx' l lx acc c true N e a m i s p) Tf_z2 [] [] Tf_z1)
    ·have c5:decide ((0:Int)<(i:Int))=false:=decide_eq_false (by omega)
     exact loop_last (by simp) (body_of_sbodyK mixedz (b8x_6 W h hx' l lx acc c true N e a m i s p) Tf_z2 [] [] Tf_z1)
   ·rw [hy] at h60
    clear fin bad
    have hgl:acc.length+[AV.sl 1 (p.map AV.str) []].length=(acc++[p]).length:=by rw [List.length_append];rfl
    by_cases hi0:0<i
    ·have c5:decide ((0:Int)<(i:Int))=true:=decide_eq_true (by omega)
     have c4:=hc hi0
     exact loop_next (body_of_sbodyK mixedz (b8x_5 W h hx' l lx acc c false N e a m i s p) (by clear n1;exact Tf_z2) [(100003,100006)] [] (σ3:=S8 h l (acc++[p]) (decide (hx'.int=1)) N (i+1)) (by clear n1;exact Tf_z1)) n1
    ·have c5:decide ((0:Int)<(i:Int))=false:=decide_eq_false (by omega)
     exact loop_next (body_of_sbodyK mixedz (b8x_7 W h hx' l lx acc c false N e a m i s p) (by clear n1;exact Tf_z2) [(100003,100006)] [] (σ3:=S8 h l (acc++[p]) (decide (hx'.int=1)) N (i+1)) (by clear n1;exact Tf_z1)) n1
  ·have c6:(!decide (hx'.int=1))=true:=by rw [decide_eq_false h1];rfl
   rw [if_pos (show hx'.kind ≠ 3\/hx'.int ≠ 0/\hx'.int ≠ 1 from .inr ⟨h0,h1⟩)]
   clear fin bad h60
   exact .inr ⟨61,rfl,loop_last (by simp) (body_of_sbodyK mixedz (b8x_2 W h hx' l lx acc c N e a i s p) Tf_z2 [] [] Tf_z1)⟩
end
end Go.Ac

namespace Go.Ac
open Go Go.Proofs
set_option maxRecDepth 10000
set_option maxHeartbeats 1000000
theorem p9_2 (W:World) (h:JH) (l:List JV) (acc:List (List (List UInt8))) (c:Bool) (n:Int):sF W {lp:=true,ol:=true,fin:=9,tl:=[]} 55 [eV h l] [] 100000 [bf,bf,ee,.loopM [] [(100002,1)] (S9 h l [] false n 0) (.exit 0) (E9 acc c),ee,.fin [] [] (.tup [.gp 100001 0,iA 0]) [(100001,gB (.agg [.gs 100002 0 acc.length,bA c])),(100002,.arr 22 1 (ppA acc) .own)],ee] []=.ok (.ret (.tup [.gp 100001 0,iA 0]) [(100001,gB (.agg [.gs 100002 0 acc.length,bA c])),(100002,.arr 22 1 (ppA acc) .own)],[ee],[MatchK [] [] [] {t:=[(0,.tup [.gp 100001 0,iA 0])],h:=[(100001,gB (.agg [.gs 100002 0 acc.length,bA c])),(100002,.arr 22 1 (ppA acc) .own)]} {t:=[(0,.tup [.gp 100001 0,iA 0])],h:=[(100001,gB (.agg [.gs 100002 0 acc.length,bA c])),(100002,.arr 22 1 (ppA acc) .own)]},LZ W [] 55 0 (S9 h l [] false n 0) (.exit 0) (E9 acc c),MatchK [] [] [(100002,1)] {t:=[(1,.gp 100000 0),(5,.gp 100001 0),(27,iA (if (↑(encVs l).length:Int)<(↑(List.map AV.str h.names).length:Int) then (↑(encVs l).length:Int) else (↑(List.map AV.str h.names).length:Int))),(28,iA 0)],h:=[(100000,gB (eV h l)),(100001,gB (.agg [.val (Value.slice none 0 0),bA false]))]} (S9 h l [] false n 0),decide (32<if (↑(encVs l).length:Int)<(↑(List.map AV.str h.names).length:Int) then (↑(encVs l).length:Int) else (↑(List.map AV.str h.names).length:Int))=false,(!decide (h.kind=6))=false]):=kr
theorem q9_0 (W:World) (h:JH) (l:List JV):sF W {lp:=true,ol:=true,tl:=[]} 55 [eV h l] [] 100000 [bt,ee] []=.ok (.ret (.tup [.val (Value.pointer none),iA 61]) [],[ee],[(!decide (h.kind=6))=true]):=kr
theorem q9_1 (W:World) (h:JH) (l:List JV):sF W {lp:=true,ol:=true,tl:=[]} 55 [eV h l] [] 100000 [bf,bt,ee] []=.ok (.ret (.tup [.val (Value.pointer none),iA 43]) [],[ee],[decide (32<if (↑(encVs l).length:Int)<(↑(List.map AV.str h.names).length:Int) then (↑(encVs l).length:Int) else (↑(List.map AV.str h.names).length:Int))=true,(!decide (h.kind=6))=false]):=kr
theorem q9_2 (W:World) (h:JH) (l:List JV) (n e:Int):sF W {lp:=true,ol:=true,tl:=[]} 55 [eV h l] [] 100000 [bf,bf,ee,.loopM [] [(100002,1)] (S9 h l [] false n 0) .ret (R9 e),ee] []=.ok (.ret (.tup [.val (Value.pointer none),iA e]) [],[ee],[LZ W [] 55 0 (S9 h l [] false n 0) .ret (R9 e),MatchK [] [] [(100002,1)] {t:=[(1,.gp 100000 0),(5,.gp 100001 0),(27,iA (if (↑(encVs l).length:Int)<(↑(List.map AV.str h.names).length:Int) then (↑(encVs l).length:Int) else (↑(List.map AV.str h.names).length:Int))),(28,iA 0)],h:=[(100000,gB (eV h l)),(100001,gB (.agg [.val (Value.slice none 0 0),bA false]))]} (S9 h l [] false n 0),decide (32<if (↑(encVs l).length:Int)<(↑(List.map AV.str h.names).length:Int) then (↑(encVs l).length:Int) else (↑(List.map AV.str h.names).length:Int))=false,(!decide (h.kind=6))=false]):=kr
theorem b9x_0 (W:World) (h:JH) (l:List JV) (acc:List (List (List UInt8))) (c:Bool) (n e a:Int) (i:Nat) (s:List UInt8) (p:List (List UInt8)):sQ W {lp:=true,ol:=true,tl:=[71,72]} 55 0 [] [1,2,3,5,27,28] (S9 h l acc c n i) [bt,aE 1,oS (.str s),ee,.lg,ee,cR (.tup [sL 1 (List.map AV.str p),iA e,iA a]) [],bt,bt,bt,ee]=.ok ((.ret,{t:=[(1,.gp 100000 0),(2,.val (Value.pointer none)),(3,iA 20),(5,.gp 100001 0),(27,iA n),(28,iA (i:Int))],h:=[(100000,gB (eV h l)),(100001,gB (.agg [.gs 100002 0 acc.length,bA c])),(100002,.arr 22 1 (ppA acc) .own)]}),[aE 9999999],d3 ((!decide (e=0))=true) [MZ W 71 [.str s] [] (.ret (.tup [sL 1 (List.map AV.str p),iA e,iA a]) []),cloHs [],(List.map AV.str h.names)[(i:Int).toNat]?=some (AV.str s),decide ((i:Int)<n)=true]):=kr
theorem b9x_1 (W:World) (h:JH) (l:List JV) (acc:List (List (List UInt8))) (c bi:Bool) (n e a:Int) (i:Nat) (s:List UInt8) (p:List (List UInt8)):sQ W {lp:=true,ol:=true,tl:=[71,72]} 55 0 [] [1,2,3,5,27,28] (S9 h l acc c n i) [bt,aE 1,oS (.str s),ee,.lg,ee,cR (.tup [sL 1 (List.map AV.str p),iA e,iA a]) [],bf,bf,ee,.lg,ee,cR (bA bi) [],bf,bt,ee]=.ok ((.ret,{t:=[(1,.gp 100000 0),(2,.val (Value.pointer none)),(3,iA 20),(5,.gp 100001 0),(27,iA n),(28,iA (i:Int))],h:=[(100000,gB (eV h l)),(100001,gB (.agg [.gs 100002 0 acc.length,bA c])),(100002,.arr 22 1 (ppA acc) .own)]}),[ee],(bi=true)::((!decide (e=0))=false)::MZ W 72 [sL 1 (List.map AV.str p),.val (Value.func (Fn.func 73) #[] #[])] [] (.ret (bA bi) [])::cloHs []::(d2 ((!decide (e=0))=false) [MZ W 71 [.str s] [] (.ret (.tup [sL 1 (List.map AV.str p),iA e,iA a]) []),cloHs [],(List.map AV.str h.names)[(i:Int).toNat]?=some (AV.str s),decide ((i:Int)<n)=true])):=kr
theorem b9x_2 (W:World) (h hx:JH) (l lx:List JV) (acc:List (List (List UInt8))) (c bi:Bool) (n e a:Int) (i:Nat) (s:List UInt8) (p:List (List UInt8)):sQ W {lp:=true,ol:=true,tl:=[71,72]} 55 0 [] [1,2,3,5,27,28] (S9 h l acc c n i) [bt,aE 1,oS (.str s),ee,.lg,ee,cR (.tup [sL 1 (List.map AV.str p),iA e,iA a]) [],bf,bf,ee,.lg,ee,cR (bA bi) [],bf,bf,aE 1,oS (eV hx lx),bt,bt,bt,bt,bt,bt,ee]=.ok ((.ret,{t:=[(1,.gp 100000 0),(2,.val (Value.pointer none)),(3,iA 61),(5,.gp 100001 0),(27,iA n),(28,iA (i:Int))],h:=[(100000,gB (eV h l)),(100001,gB (.agg [.gs 100002 0 acc.length,bA c])),(100002,.arr 22 1 (ppA acc) .own),(100003,gB (eV hx lx))]}),[aE 9999999],d6 ((!decide (hx.kind=3))=true) (((encVs l)[(i:Int).toNat]?=some (eV hx lx))::(bi=false)::((!decide (e=0))=false)::MZ W 72 [sL 1 (List.map AV.str p),.val (Value.func (Fn.func 73) #[] #[])] [] (.ret (bA bi) [])::cloHs []::(d2 ((!decide (e=0))=false) [MZ W 71 [.str s] [] (.ret (.tup [sL 1 (List.map AV.str p),iA e,iA a]) []),cloHs [],(List.map AV.str h.names)[(i:Int).toNat]?=some (AV.str s),decide ((i:Int)<n)=true]))):=kr
theorem b9x_3 (W:World) (h hx:JH) (l lx:List JV) (acc:List (List (List UInt8))) (c bi:Bool) (n e a:Int) (i:Nat) (s:List UInt8) (p:List (List UInt8)):sQ W {lp:=true,ol:=true,tl:=[71,72]} 55 0 [] [1,2,3,5,27,28] (S9 h l acc c n i) [bt,aE 1,oS (.str s),ee,.lg,ee,cR (.tup [sL 1 (List.map AV.str p),iA e,iA a]) [],bf,bf,ee,.lg,ee,cR (bA bi) [],bf,bf,aE 1,oS (eV hx lx),bf,bf,bf,bf,bt,bt,bt,bf,bt,bf,bt,ee]=.ok ((.ret,{t:=[(1,.gp 100000 0),(2,.val (Value.pointer none)),(3,iA 61),(5,.gp 100001 0),(27,iA n),(28,iA (i:Int))],h:=[(100000,gB (eV h l)),(100001,gB (.agg [.gs 100002 0 acc.length,bA c])),(100002,.arr 22 1 (ppA acc) .own),(100003,gB (eV hx lx))]}),[ee],((!decide (hx.int=1))=true)::((!decide (hx.kind=3))=false)::((!decide (hx.int=0))=true)::((!decide (hx.kind=3))=false)::(d3 ((!decide (hx.int=0))=true) (d4 ((!decide (hx.kind=3))=false) (((encVs l)[(i:Int).toNat]?=some (eV hx lx))::(bi=false)::((!decide (e=0))=false)::MZ W 72 [sL 1 (List.map AV.str p),.val (Value.func (Fn.func 73) #[] #[])] [] (.ret (bA bi) [])::cloHs []::(d2 ((!decide (e=0))=false) [MZ W 71 [.str s] [] (.ret (.tup [sL 1 (List.map AV.str p),iA e,iA a]) []),cloHs [],(List.map AV.str h.names)[(i:Int).toNat]?=some (AV.str s),decide ((i:Int)<n)=true]))))):=kr
theorem b9x_4 (W:World) (h hx:JH) (l lx:List JV) (acc:List (List (List UInt8))) (c bi:Bool) (n e a:Int) (i:Nat) (s:List UInt8) (p:List (List UInt8)):sQ W {lp:=true,ol:=true,tl:=[71,72]} 55 0 [] [1,2,3,5,27,28] (S9 h l acc c n i) [bt,aE 1,oS (.str s),ee,.lg,ee,cR (.tup [sL 1 (List.map AV.str p),iA e,iA a]) [],bf,bf,ee,.lg,ee,cR (bA bi) [],bf,bf,aE 1,oS (eV hx lx),bf,bf,bf,bf,bt,bt,bt,bf,bt,bf,bf,bt,bt,bt,bt,bt,bt,bt,bt,bt,bt,ee]=.ok ((.ret,{t:=[(1,.gp 100000 0),(2,.val (Value.pointer none)),(3,iA 62),(5,.gp 100001 0),(27,iA n),(28,iA (i:Int))],h:=[(100000,gB (eV h l)),(100001,gB (.agg [.gs 100002 0 acc.length,bA c])),(100002,.arr 22 1 (ppA acc) .own),(100003,gB (eV hx lx))]}),[ee],((!c == decide (hx.int=1))=true)::(d3 (decide (0<(i:Int))=true) (d6 (decide (0<(i:Int))=true) (((!decide (hx.int=1))=false)::((!decide (hx.kind=3))=false)::((!decide (hx.int=0))=true)::((!decide (hx.kind=3))=false)::(d3 ((!decide (hx.int=0))=true) (d4 ((!decide (hx.kind=3))=false) (((encVs l)[(i:Int).toNat]?=some (eV hx lx))::(bi=false)::((!decide (e=0))=false)::MZ W 72 [sL 1 (List.map AV.str p),.val (Value.func (Fn.func 73) #[] #[])] [] (.ret (bA bi) [])::cloHs []::(d2 ((!decide (e=0))=false) [MZ W 71 [.str s] [] (.ret (.tup [sL 1 (List.map AV.str p),iA e,iA a]) []),cloHs [],(List.map AV.str h.names)[(i:Int).toNat]?=some (AV.str s),decide ((i:Int)<n)=true])))))))):=kr
theorem b9x_5 (W:World) (h hx:JH) (l lx:List JV) (acc:List (List (List UInt8))) (c bi:Bool) (n e a:Int) (i:Nat) (s:List UInt8) (p:List (List UInt8)):sQ W {lp:=true,ol:=true,tl:=[71,72]} 55 0 [] [1,2,3,5,27,28] (S9 h l acc c n i) [bt,aE 1,oS (.str s),ee,.lg,ee,cR (.tup [sL 1 (List.map AV.str p),iA e,iA a]) [],bf,bf,ee,.lg,ee,cR (bA bi) [],bf,bf,aE 1,oS (eV hx lx),bf,bf,bf,bf,bt,bt,bt,bf,bt,bf,bf,bt,bt,bt,bt,bt,bt,bt,bt,bt,bf,ee,.loopM [] [] (T9 h l acc (decide (hx.int=1)) n i p 0) (.exit 2) (U9 h l acc (decide (hx.int=1)) n i p),aE 1,.lg,.lg,ee]=.ok ((.normal,{t:=[(1,.gp 100000 0),(5,.gp 100001 0),(27,iA n),(28,iA (IntKind.i64.wrap ((i:Int)+1)))],h:=[(100000,gB (eV h l)),(100001,gB (.agg [.gs 100004 0 (acc.length+[sL 1 (List.map AV.str p)].length),bA (decide (hx.int=1))])),(100002,.dead),(100003,.arr 22 1 [sL 1 (List.map AV.str p)] .own),(100004,.arr 22 1 (List.take acc.length (ppA acc)++[sL 1 (List.map AV.str p)]) .own)]}),[ee],((acc.length+[sL 1 (List.map AV.str p)].length) * 24<=140737488355328)::((St.own=St.own\/St.own=St.shr/\acc.length=(ppA acc).length)/\acc.length<=(ppA acc).length)::LZ W [] 55 1 (T9 h l acc (decide (hx.int=1)) n i p 0) (.exit 2) (U9 h l acc (decide (hx.int=1)) n i p)::MatchK [] [] [] {t:=[(1,.gp 100000 0),(5,.gp 100001 0),(7,sL 1 (List.map AV.str p)),(27,iA n),(28,iA (i:Int)),(86,.gs 100002 0 acc.length),(87,iA (acc.length:Int)),(88,iA 0)],h:=[(100000,gB (eV h l)),(100001,gB (.agg [.gs 100002 0 acc.length,bA (decide (hx.int=1))])),(100002,.arr 22 1 (ppA acc) .own),(100003,gB (eV hx lx))]} (T9 h l acc (decide (hx.int=1)) n i p 0)::((!c == decide (hx.int=1))=false)::(d3 (decide (0<(i:Int))=true) (d6 (decide (0<(i:Int))=true) (((!decide (hx.int=1))=false)::((!decide (hx.kind=3))=false)::((!decide (hx.int=0))=true)::((!decide (hx.kind=3))=false)::(d3 ((!decide (hx.int=0))=true) (d4 ((!decide (hx.kind=3))=false) (((encVs l)[(i:Int).toNat]?=some (eV hx lx))::(bi=false)::((!decide (e=0))=false)::MZ W 72 [sL 1 (List.map AV.str p),.val (Value.func (Fn.func 73) #[] #[])] [] (.ret (bA bi) [])::cloHs []::(d2 ((!decide (e=0))=false) [MZ W 71 [.str s] [] (.ret (.tup [sL 1 (List.map AV.str p),iA e,iA a]) []),cloHs [],(List.map AV.str h.names)[(i:Int).toNat]?=some (AV.str s),decide ((i:Int)<n)=true])))))))):=kr
theorem b9x_6 (W:World) (h hx:JH) (l lx:List JV) (acc:List (List (List UInt8))) (c bi:Bool) (n e a:Int) (i:Nat) (s:List UInt8) (p:List (List UInt8)):sQ W {lp:=true,ol:=true,tl:=[71,72]} 55 0 [] [1,2,3,5,27,28] (S9 h l acc c n i) [bt,aE 1,oS (.str s),ee,.lg,ee,cR (.tup [sL 1 (List.map AV.str p),iA e,iA a]) [],bf,bf,ee,.lg,ee,cR (bA bi) [],bf,bf,aE 1,oS (eV hx lx),bf,bf,bf,bf,bt,bt,bt,bf,bt,bf,bf,bf,bf,bf,bf,bf,bf,bf,bf,bf,ee,.loopM [] [] (T9 h l acc (decide (hx.int=1)) n i p 0) (.exit 2) (U9 h l acc (decide (hx.int=1)) n i p),aE 1,.lg,.lg,ee]=.ok ((.normal,{t:=[(1,.gp 100000 0),(5,.gp 100001 0),(27,iA n),(28,iA (IntKind.i64.wrap ((i:Int)+1)))],h:=[(100000,gB (eV h l)),(100001,gB (.agg [.gs 100004 0 (acc.length+[sL 1 (List.map AV.str p)].length),bA (decide (hx.int=1))])),(100002,.dead),(100003,.arr 22 1 [sL 1 (List.map AV.str p)] .own),(100004,.arr 22 1 (List.take acc.length (ppA acc)++[sL 1 (List.map AV.str p)]) .own)]}),[ee],((acc.length+[sL 1 (List.map AV.str p)].length) * 24<=140737488355328)::((St.own=St.own\/St.own=St.shr/\acc.length=(ppA acc).length)/\acc.length<=(ppA acc).length)::LZ W [] 55 1 (T9 h l acc (decide (hx.int=1)) n i p 0) (.exit 2) (U9 h l acc (decide (hx.int=1)) n i p)::MatchK [] [] [] {t:=[(1,.gp 100000 0),(5,.gp 100001 0),(7,sL 1 (List.map AV.str p)),(27,iA n),(28,iA (i:Int)),(86,.gs 100002 0 acc.length),(87,iA (acc.length:Int)),(88,iA 0)],h:=[(100000,gB (eV h l)),(100001,gB (.agg [.gs 100002 0 acc.length,bA (decide (hx.int=1))])),(100002,.arr 22 1 (ppA acc) .own),(100003,gB (eV hx lx))]} (T9 h l acc (decide (hx.int=1)) n i p 0)::(d3 (decide (0<(i:Int))=false) (d6 (decide (0<(i:Int))=false) (((!decide (hx.int=1))=false)::((!decide (hx.kind=3))=false)::((!decide (hx.int=0))=true)::((!decide (hx.kind=3))=false)::(d3 ((!decide (hx.int=0))=true) (d4 ((!decide (hx.kind=3))=false) (((encVs l)[(i:Int).toNat]?=some (eV hx lx))::(bi=false)::((!decide (e=0))=false)::MZ W 72 [sL 1 (List.map AV.str p),.val (Value.func (Fn.func 73) #[] #[])] [] (.ret (bA bi) [])::cloHs []::(d2 ((!decide (e=0))=false) [MZ W 71 [.str s] [] (.ret (.tup [sL 1 (List.map AV.str p),iA e,iA a]) []),cloHs [],(List.map AV.str h.names)[(i:Int).toNat]?=some (AV.str s),decide ((i:Int)<n)=true])))))))):=kr
theorem b9x_7 (W:World) (h hx:JH) (l lx:List JV) (acc:List (List (List UInt8))) (c bi:Bool) (n e a:Int) (i:Nat) (s:List UInt8) (p:List (List UInt8)):sQ W {lp:=true,ol:=true,tl:=[71,72]} 55 0 [] [1,2,3,5,27,28] (S9 h l acc c n i) [bt,aE 1,oS (.str s),ee,.lg,ee,cR (.tup [sL 1 (List.map AV.str p),iA e,iA a]) [],bf,bf,ee,.lg,ee,cR (bA bi) [],bf,bf,aE 1,oS (eV hx lx),bf,bf,bf,bf,bf,bf,bf,bf,bf,bf,aE 1,bt,bt,bt,bt,bt,bt,bt,bt,bt,bt,ee]=.ok ((.ret,{t:=[(1,.gp 100000 0),(2,.val (Value.pointer none)),(3,iA 62),(5,.gp 100001 0),(27,iA n),(28,iA (i:Int))],h:=[(100000,gB (eV h l)),(100001,gB (.agg [.gs 100002 0 acc.length,bA c])),(100002,.arr 22 1 (ppA acc) .own),(100003,gB (eV hx lx))]}),[ee],((!c == decide (hx.int=1))=true)::(d3 (decide (0<(i:Int))=true) (d6 (decide (0<(i:Int))=true) (((!decide (hx.kind=3))=false)::((!decide (hx.int=0))=false)::((!decide (hx.kind=3))=false)::(d3 ((!decide (hx.int=0))=false) (d4 ((!decide (hx.kind=3))=false) (((encVs l)[(i:Int).toNat]?=some (eV hx lx))::(bi=false)::((!decide (e=0))=false)::MZ W 72 [sL 1 (List.map AV.str p),.val (Value.func (Fn.func 73) #[] #[])] [] (.ret (bA bi) [])::cloHs []::(d2 ((!decide (e=0))=false) [MZ W 71 [.str s] [] (.ret (.tup [sL 1 (List.map AV.str p),iA e,iA a]) []),cloHs [],(List.map AV.str h.names)[(i:Int).toNat]?=some (AV.str s),decide ((i:Int)<n)=true])))))))):=kr
theorem b9x_8 (W:World) (h hx:JH) (l lx:List JV) (acc:List (List (List UInt8))) (c bi:Bool) (n e a:Int) (i:Nat) (s:List UInt8) (p:List (List UInt8)):sQ W {lp:=true,ol:=true,tl:=[71,72]} 55 0 [] [1,2,3,5,27,28] (S9 h l acc c n i) [bt,aE 1,oS (.str s),ee,.lg,ee,cR (.tup [sL 1 (List.map AV.str p),iA e,iA a]) [],bf,bf,ee,.lg,ee,cR (bA bi) [],bf,bf,aE 1,oS (eV hx lx),bf,bf,bf,bf,bf,bf,bf,bf,bf,bf,aE 1,bt,bt,bt,bt,bt,bt,bt,bt,bt,bf,ee,.loopM [] [] (T9 h l acc (decide (hx.int=1)) n i p 0) (.exit 2) (U9 h l acc (decide (hx.int=1)) n i p),aE 1,.lg,.lg,ee]=.ok ((.normal,{t:=[(1,.gp 100000 0),(5,.gp 100001 0),(27,iA n),(28,iA (IntKind.i64.wrap ((i:Int)+1)))],h:=[(100000,gB (eV h l)),(100001,gB (.agg [.gs 100004 0 (acc.length+[sL 1 (List.map AV.str p)].length),bA (decide (hx.int=1))])),(100002,.dead),(100003,.arr 22 1 [sL 1 (List.map AV.str p)] .own),(100004,.arr 22 1 (List.take acc.length (ppA acc)++[sL 1 (List.map AV.str p)]) .own)]}),[ee],((acc.length+[sL 1 (List.map AV.str p)].length) * 24<=140737488355328)::((St.own=St.own\/St.own=St.shr/\acc.length=(ppA acc).length)/\acc.length<=(ppA acc).length)::LZ W [] 55 1 (T9 h l acc (decide (hx.int=1)) n i p 0) (.exit 2) (U9 h l acc (decide (hx.int=1)) n i p)::MatchK [] [] [] {t:=[(1,.gp 100000 0),(5,.gp 100001 0),(7,sL 1 (List.map AV.str p)),(27,iA n),(28,iA (i:Int)),(86,.gs 100002 0 acc.length),(87,iA (acc.length:Int)),(88,iA 0)],h:=[(100000,gB (eV h l)),(100001,gB (.agg [.gs 100002 0 acc.length,bA (decide (hx.int=1))])),(100002,.arr 22 1 (ppA acc) .own),(100003,gB (eV hx lx))]} (T9 h l acc (decide (hx.int=1)) n i p 0)::((!c == decide (hx.int=1))=false)::(d3 (decide (0<(i:Int))=true) (d6 (decide (0<(i:Int))=true) (((!decide (hx.kind=3))=false)::((!decide (hx.int=0))=false)::((!decide (hx.kind=3))=false)::(d3 ((!decide (hx.int=0))=false) (d4 ((!decide (hx.kind=3))=false) (((encVs l)[(i:Int).toNat]?=some (eV hx lx))::(bi=false)::((!decide (e=0))=false)::MZ W 72 [sL 1 (List.map AV.str p),.val (Value.func (Fn.func 73) #[] #[])] [] (.ret (bA bi) [])::cloHs []::(d2 ((!decide (e=0))=false) [MZ W 71 [.str s] [] (.ret (.tup [sL 1 (List.map AV.str p),iA e,iA a]) []),cloHs [],(List.map AV.str h.names)[(i:Int).toNat]?=some (AV.str s),decide ((i:Int)<n)=true])))))))):=kr
theorem b9x_9 (W:World) (h hx:JH) (l lx:List JV) (acc:List (List (List UInt8))) (c bi:Bool) (n e a:Int) (i:Nat) (s:List UInt8) (p:List (List UInt8)):sQ W {lp:=true,ol:=true,tl:=[71,72]} 55 0 [] [1,2,3,5,27,28] (S9 h l acc c n i) [bt,aE 1,oS (.str s),ee,.lg,ee,cR (.tup [sL 1 (List.map AV.str p),iA e,iA a]) [],bf,bf,ee,.lg,ee,cR (bA bi) [],bf,bf,aE 1,oS (eV hx lx),bf,bf,bf,bf,bf,bf,bf,bf,bf,bf,aE 1,bf,bf,bf,bf,bf,bf,bf,bf,bf,ee,.loopM [] [] (T9 h l acc (decide (hx.int=1)) n i p 0) (.exit 2) (U9 h l acc (decide (hx.int=1)) n i p),aE 1,.lg,.lg,ee]=.ok ((.normal,{t:=[(1,.gp 100000 0),(5,.gp 100001 0),(27,iA n),(28,iA (IntKind.i64.wrap ((i:Int)+1)))],h:=[(100000,gB (eV h l)),(100001,gB (.agg [.gs 100004 0 (acc.length+[sL 1 (List.map AV.str p)].length),bA (decide (hx.int=1))])),(100002,.dead),(100003,.arr 22 1 [sL 1 (List.map AV.str p)] .own),(100004,.arr 22 1 (List.take acc.length (ppA acc)++[sL 1 (List.map AV.str p)]) .own)]}),[ee],((acc.length+[sL 1 (List.map AV.str p)].length) * 24<=140737488355328)::((St.own=St.own\/St.own=St.shr/\acc.length=(ppA acc).length)/\acc.length<=(ppA acc).length)::LZ W [] 55 1 (T9 h l acc (decide (hx.int=1)) n i p 0) (.exit 2) (U9 h l acc (decide (hx.int=1)) n i p)::MatchK [] [] [] {t:=[(1,.gp 100000 0),(5,.gp 100001 0),(7,sL 1 (List.map AV.str p)),(27,iA n),(28,iA (i:Int)),(86,.gs 100002 0 acc.length),(87,iA (acc.length:Int)),(88,iA 0)],h:=[(100000,gB (eV h l)),(100001,gB (.agg [.gs 100002 0 acc.length,bA (decide (hx.int=1))])),(100002,.arr 22 1 (ppA acc) .own),(100003,gB (eV hx lx))]} (T9 h l acc (decide (hx.int=1)) n i p 0)::(d3 (decide (0<(i:Int))=false) (d6 (decide (0<(i:Int))=false) (((!decide (hx.kind=3))=false)::((!decide (hx.int=0))=false)::((!decide (hx.kind=3))=false)::(d3 ((!decide (hx.int=0))=false) (d4 ((!decide (hx.kind=3))=false) (((encVs l)[(i:Int).toNat]?=some (eV hx lx))::(bi=false)::((!decide (e=0))=false)::MZ W 72 [sL 1 (List.map AV.str p),.val (Value.func (Fn.func 73) #[] #[])] [] (.ret (bA bi) [])::cloHs []::(d2 ((!decide (e=0))=false) [MZ W 71 [.str s] [] (.ret (.tup [sL 1 (List.map AV.str p),iA e,iA a]) []),cloHs [],(List.map AV.str h.names)[(i:Int).toNat]?=some (AV.str s),decide ((i:Int)<n)=true])))))))):=kr
theorem b9x_10 (W:World) (h:JH) (l:List JV) (acc:List (List (List UInt8))) (c:Bool) (n:Int) (i:Nat):sQ W {lp:=true,ol:=true,tl:=[71,72]} 55 0 [] [1,2,3,5,27,28] (S9 h l acc c n i) [bf,ee]=.ok ((.exit 0,{t:=[(1,.gp 100000 0),(5,.gp 100001 0),(27,iA n),(28,iA (i:Int))],h:=[(100000,gB (eV h l)),(100001,gB (.agg [.gs 100002 0 acc.length,bA c])),(100002,.arr 22 1 (ppA acc) .own)]}),[ee],[decide ((i:Int)<n)=false]):=kr
theorem b9r_5 (W:World) (h hx:JH) (l lx:List JV) (acc:List (List (List UInt8))) (c bi:Bool) (n e a:Int) (i:Nat) (s:List UInt8) (p:List (List UInt8)):sQ W {lp:=true,ol:=true,tl:=[71,72]} 55 0 [] [1,2,3,5,27,28] (S9 h l acc c n i) [bt,aE 1,oS (.str s),ee,.lg,ee,cR (.tup [sL 1 (List.map AV.str p),iA e,iA a]) [],bf,bf,ee,.lg,ee,cR (bA bi) [],bf,bf,aE 1,oS (eV hx lx),bf,bf,bf,bf,bt,bt,bt,bf,bt,bf,bf,bt,bt,bt,bt,bt,bt,bt,bt,bt,bf,ee,.loopM [] [] (T9 h l acc (decide (hx.int=1)) n i p 0) .ret (R9 23),ee]=.ok ((.ret,{t:=[(2,.val (Value.pointer none)),(3,iA 23)],h:=[]}),[ee],LZ W [] 55 1 (T9 h l acc (decide (hx.int=1)) n i p 0) .ret (R9 23)::MatchK [] [] [] {t:=[(1,.gp 100000 0),(5,.gp 100001 0),(7,sL 1 (List.map AV.str p)),(27,iA n),(28,iA (i:Int)),(86,.gs 100002 0 acc.length),(87,iA (acc.length:Int)),(88,iA 0)],h:=[(100000,gB (eV h l)),(100001,gB (.agg [.gs 100002 0 acc.length,bA (decide (hx.int=1))])),(100002,.arr 22 1 (ppA acc) .own),(100003,gB (eV hx lx))]} (T9 h l acc (decide (hx.int=1)) n i p 0)::((!c == decide (hx.int=1))=false)::(d3 (decide (0<(i:Int))=true) (d6 (decide (0<(i:Int))=true) (((!decide (hx.int=1))=false)::((!decide (hx.kind=3))=false)::((!decide (hx.int=0))=true)::((!decide (hx.kind=3))=false)::(d3 ((!decide (hx.int=0))=true) (d4 ((!decide (hx.kind=3))=false) (((encVs l)[(i:Int).toNat]?=some (eV hx lx))::(bi=false)::((!decide (e=0))=false)::MZ W 72 [sL 1 (List.map AV.str p),.val (Value.func (Fn.func 73) #[] #[])] [] (.ret (bA bi) [])::cloHs []::(d2 ((!decide (e=0))=false) [MZ W 71 [.str s] [] (.ret (.tup [sL 1 (List.map AV.str p),iA e,iA a]) []),cloHs [],(List.map AV.str h.names)[(i:Int).toNat]?=some (AV.str s),decide ((i:Int)<n)=true])))))))):=kr
theorem b9r_6 (W:World) (h hx:JH) (l lx:List JV) (acc:List (List (List UInt8))) (c bi:Bool) (n e a:Int) (i:Nat) (s:List UInt8) (p:List (List UInt8)):sQ W {lp:=true,ol:=true,tl:=[71,72]} 55 0 [] [1,2,3,5,27,28] (S9 h l acc c n i) [bt,aE 1,oS (.str s),ee,.lg,ee,cR (.tup [sL 1 (List.map AV.str p),iA e,iA a]) [],bf,bf,ee,.lg,ee,cR (bA bi) [],bf,bf,aE 1,oS (eV hx lx),bf,bf,bf,bf,bt,bt,bt,bf,bt,bf,bf,bf,bf,bf,bf,bf,bf,bf,bf,bf,ee,.loopM [] [] (T9 h l acc (decide (hx.int=1)) n i p 0) .ret (R9 23),ee]=.ok ((.ret,{t:=[(2,.val (Value.pointer none)),(3,iA 23)],h:=[]}),[ee],LZ W [] 55 1 (T9 h l acc (decide (hx.int=1)) n i p 0) .ret (R9 23)::MatchK [] [] [] {t:=[(1,.gp 100000 0),(5,.gp 100001 0),(7,sL 1 (List.map AV.str p)),(27,iA n),(28,iA (i:Int)),(86,.gs 100002 0 acc.length),(87,iA (acc.length:Int)),(88,iA 0)],h:=[(100000,gB (eV h l)),(100001,gB (.agg [.gs 100002 0 acc.length,bA (decide (hx.int=1))])),(100002,.arr 22 1 (ppA acc) .own),(100003,gB (eV hx lx))]} (T9 h l acc (decide (hx.int=1)) n i p 0)::(d3 (decide (0<(i:Int))=false) (d6 (decide (0<(i:Int))=false) (((!decide (hx.int=1))=false)::((!decide (hx.kind=3))=false)::((!decide (hx.int=0))=true)::((!decide (hx.kind=3))=false)::(d3 ((!decide (hx.int=0))=true) (d4 ((!decide (hx.kind=3))=false) (((encVs l)[(i:Int).toNat]?=some (eV hx lx))::(bi=false)::((!decide (e=0))=false)::MZ W 72 [sL 1 (List.map AV.str p),.val (Value.func (Fn.func 73) #[] #[])] [] (.ret (bA bi) [])::cloHs []::(d2 ((!decide (e=0))=false) [MZ W 71 [.str s] [] (.ret (.tup [sL 1 (List.map AV.str p),iA e,iA a]) []),cloHs [],(List.map AV.str h.names)[(i:Int).toNat]?=some (AV.str s),decide ((i:Int)<n)=true])))))))):=kr
theorem b9r_8 (W:World) (h hx:JH) (l lx:List JV) (acc:List (List (List UInt8))) (c bi:Bool) (n e a:Int) (i:Nat) (s:List UInt8) (p:List (List UInt8)):sQ W {lp:=true,ol:=true,tl:=[71,72]} 55 0 [] [1,2,3,5,27,28] (S9 h l acc c n i) [bt,aE 1,oS (.str s),ee,.lg,ee,cR (.tup [sL 1 (List.map AV.str p),iA e,iA a]) [],bf,bf,ee,.lg,ee,cR (bA bi) [],bf,bf,aE 1,oS (eV hx lx),bf,bf,bf,bf,bf,bf,bf,bf,bf,bf,aE 1,bt,bt,bt,bt,bt,bt,bt,bt,bt,bf,ee,.loopM [] [] (T9 h l acc (decide (hx.int=1)) n i p 0) .ret (R9 23),ee]=.ok ((.ret,{t:=[(2,.val (Value.pointer none)),(3,iA 23)],h:=[]}),[ee],LZ W [] 55 1 (T9 h l acc (decide (hx.int=1)) n i p 0) .ret (R9 23)::MatchK [] [] [] {t:=[(1,.gp 100000 0),(5,.gp 100001 0),(7,sL 1 (List.map AV.str p)),(27,iA n),(28,iA (i:Int)),(86,.gs 100002 0 acc.length),(87,iA (acc.length:Int)),(88,iA 0)],h:=[(100000,gB (eV h l)),(100001,gB (.agg [.gs 100002 0 acc.length,bA (decide (hx.int=1))])),(100002,.arr 22 1 (ppA acc) .own),(100003,gB (eV hx lx))]} (T9 h l acc (decide (hx.int=1)) n i p 0)::((!c == decide (hx.int=1))=false)::(d3 (decide (0<(i:Int))=true) (d6 (decide (0<(i:Int))=true) (((!decide (hx.kind=3))=false)::((!decide (hx.int=0))=false)::((!decide (hx.kind=3))=false)::(d3 ((!decide (hx.int=0))=false) (d4 ((!decide (hx.kind=3))=false) (((encVs l)[(i:Int).toNat]?=some (eV hx lx))::(bi=false)::((!decide (e=0))=false)::MZ W 72 [sL 1 (List.map AV.str p),.val (Value.func (Fn.func 73) #[] #[])] [] (.ret (bA bi) [])::cloHs []::(d2 ((!decide (e=0))=false) [MZ W 71 [.str s] [] (.ret (.tup [sL 1 (List.map AV.str p),iA e,iA a]) []),cloHs [],(List.map AV.str h.names)[(i:Int).toNat]?=some (AV.str s),decide ((i:Int)<n)=true])))))))):=kr
theorem b9r_9 (W:World) (h hx:JH) (l lx:List JV) (acc:List (List (List UInt8))) (c bi:Bool) (n e a:Int) (i:Nat) (s:List UInt8) (p:List (List UInt8)):sQ W {lp:=true,ol:=true,tl:=[71,72]} 55 0 [] [1,2,3,5,27,28] (S9 h l acc c n i) [bt,aE 1,oS (.str s),ee,.lg,ee,cR (.tup [sL 1 (List.map AV.str p),iA e,iA a]) [],bf,bf,ee,.lg,ee,cR (bA bi) [],bf,bf,aE 1,oS (eV hx lx),bf,bf,bf,bf,bf,bf,bf,bf,bf,bf,aE 1,bf,bf,bf,bf,bf,bf,bf,bf,bf,ee,.loopM [] [] (T9 h l acc (decide (hx.int=1)) n i p 0) .ret (R9 23),ee]=.ok ((.ret,{t:=[(2,.val (Value.pointer none)),(3,iA 23)],h:=[]}),[ee],LZ W [] 55 1 (T9 h l acc (decide (hx.int=1)) n i p 0) .ret (R9 23)::MatchK [] [] [] {t:=[(1,.gp 100000 0),(5,.gp 100001 0),(7,sL 1 (List.map AV.str p)),(27,iA n),(28,iA (i:Int)),(86,.gs 100002 0 acc.length),(87,iA (acc.length:Int)),(88,iA 0)],h:=[(100000,gB (eV h l)),(100001,gB (.agg [.gs 100002 0 acc.length,bA (decide (hx.int=1))])),(100002,.arr 22 1 (ppA acc) .own),(100003,gB (eV hx lx))]} (T9 h l acc (decide (hx.int=1)) n i p 0)::(d3 (decide (0<(i:Int))=false) (d6 (decide (0<(i:Int))=false) (((!decide (hx.kind=3))=false)::((!decide (hx.int=0))=false)::((!decide (hx.kind=3))=false)::(d3 ((!decide (hx.int=0))=false) (d4 ((!decide (hx.kind=3))=false) (((encVs l)[(i:Int).toNat]?=some (eV hx lx))::(bi=false)::((!decide (e=0))=false)::MZ W 72 [sL 1 (List.map AV.str p),.val (Value.func (Fn.func 73) #[] #[])] [] (.ret (bA bi) [])::cloHs []::(d2 ((!decide (e=0))=false) [MZ W 71 [.str s] [] (.ret (.tup [sL 1 (List.map AV.str p),iA e,iA a]) []),cloHs [],(List.map AV.str h.names)[(i:Int).toNat]?=some (AV.str s),decide ((i:Int)<n)=true])))))))):=kr
theorem d9_0 (W:World) (h:JH) (l:List JV) (acc:List (List (List UInt8))) (c cb:Bool) (n:Int) (i k:Nat) (p q2:List (List UInt8)):sQ W {lp:=true,ol:=true,tl:=[75]} 55 1 [] [1,2,3,5,7,27,28,86,87,88] (T9 h l acc c n i p k) [bt,.lg,oS (sL 1 (List.map AV.str q2)),ee,.lg,ee,cR (bA cb) [],bt,ee]=.ok ((.ret,{t:=[(1,.gp 100000 0),(2,.val (Value.pointer none)),(3,iA 23),(5,.gp 100001 0),(7,sL 1 (List.map AV.str p)),(27,iA n),(28,iA (i:Int)),(86,.gs 100002 0 acc.length),(87,iA (acc.length:Int)),(88,iA (k:Int))],h:=[(100000,gB (eV h l)),(100001,gB (.agg [.gs 100002 0 acc.length,bA c])),(100002,.arr 22 1 (ppA acc) .own)]}),[ee],[cb=true,MZ W 75 [sL 1 (List.map AV.str p),sL 1 (List.map AV.str q2)] [] (.ret (bA cb) []),cloHs [],(ppA acc)[0+(k:Int).toNat]?=some (sL 1 (List.map AV.str q2)),0<=(k:Int)/\(k:Int)<(acc.length:Int),decide ((k:Int)<(acc.length:Int))=true]):=kr
theorem d9_1 (W:World) (h:JH) (l:List JV) (acc:List (List (List UInt8))) (c cb:Bool) (n:Int) (i k:Nat) (p q2:List (List UInt8)):sQ W {lp:=true,ol:=true,tl:=[75]} 55 1 [] [1,2,3,5,7,27,28,86,87,88] (T9 h l acc c n i p k) [bt,.lg,oS (sL 1 (List.map AV.str q2)),ee,.lg,ee,cR (bA cb) [],bf,ee]=.ok ((.normal,{t:=[(1,.gp 100000 0),(5,.gp 100001 0),(7,sL 1 (List.map AV.str p)),(27,iA n),(28,iA (i:Int)),(86,.gs 100002 0 acc.length),(87,iA (acc.length:Int)),(88,iA (IntKind.i64.wrap ((k:Int)+1)))],h:=[(100000,gB (eV h l)),(100001,gB (.agg [.gs 100002 0 acc.length,bA c])),(100002,.arr 22 1 (ppA acc) .own)]}),[ee],[cb=false,MZ W 75 [sL 1 (List.map AV.str p),sL 1 (List.map AV.str q2)] [] (.ret (bA cb) []),cloHs [],(ppA acc)[0+(k:Int).toNat]?=some (sL 1 (List.map AV.str q2)),0<=(k:Int)/\(k:Int)<(acc.length:Int),decide ((k:Int)<(acc.length:Int))=true]):=kr
theorem d9_2 (W:World) (h:JH) (l:List JV) (acc:List (List (List UInt8))) (c:Bool) (n:Int) (i k:Nat) (p:List (List UInt8)):sQ W {lp:=true,ol:=true,tl:=[75]} 55 1 [] [1,2,3,5,7,27,28,86,87,88] (T9 h l acc c n i p k) [bf,ee]=.ok ((.exit 2,{t:=[(1,.gp 100000 0),(5,.gp 100001 0),(7,sL 1 (List.map AV.str p)),(27,iA n),(28,iA (i:Int)),(86,.gs 100002 0 acc.length),(87,iA (acc.length:Int)),(88,iA (k:Int))],h:=[(100000,gB (eV h l)),(100001,gB (.agg [.gs 100002 0 acc.length,bA c])),(100002,.arr 22 1 (ppA acc) .own)]}),[ee],[decide ((k:Int)<(acc.length:Int))=false]):=kr
def R45 (i:Nat):AS:=⟨[(4,iA i)],[]⟩
def S62 (ps out:List (List (List UInt8))) (s:List UInt8) (w:Bool) (i:Nat):AS:=⟨[(0,.sl 1 (ppA ps) []),(1,.str s),(6,.gs 100000 0 out.length),(7,bA w),(8,iA i)],[(100000,.arr 22 1 (ppA out) .own)]⟩
def E62 (out:List (List (List UInt8))) (w:Bool):AS:=⟨[(6,.gs 100000 0 out.length),(7,bA w)],[(100000,.arr 22 1 (ppA out) .own)]⟩
def fA (ps:List (List (List UInt8))) (b:Bool):AV:=.agg [.sl 1 (ppA ps) [],bA b]
def L40 (ps:List (List (List UInt8))) (b:Bool) (h:JH) (l out:List JV) (i:Nat):AS:=⟨[(2,.gp 100000 0),(3,.gp 100001 0),(4,.gp 100002 0),(5,.gp 100003 0),(6,iA i)],[(100000,.box (fA ps b) .own),(100001,.box (encV (.mk h l)) .own),(100002,.box zV .own),(100003,.box (.agg [iA h.kind,iA 0,.str [],.val (.slice none 0 0),.gs 100004 0 out.length]) .own),(100004,.arr 25 5 (encVs out) .own)]⟩
def E40 (h:JH) (out:List JV):AS:=⟨[(4,.gp 100002 0),(5,.gp 100003 0)],[(100002,.box zV .own),(100003,.box (.agg [iA h.kind,iA 0,.str [],.val (.slice none 0 0),.gs 100004 0 out.length]) .own),(100004,.arr 25 5 (encVs out) .own)]⟩
def O40 (ps:List (List (List UInt8))) (b:Bool) (h:JH) (l:List JV) (ns:List (List UInt8)) (out:List JV) (i:Nat):AS:=⟨[(2,.gp 100000 0),(3,.gp 100001 0),(4,.gp 100002 0),(5,.gp 100003 0),(7,iA i)],[(100000,.box (fA ps b) .own),(100001,.box (encV (.mk h l)) .own),(100002,.box zV .own),(100003,.box (.agg [iA h.kind,iA 0,.str [],.gs 100004 0 ns.length,.gs 100005 0 out.length]) .own),(100004,.arr 9 1 (ns.map AV.str) .own),(100005,.arr 25 5 (encVs out) .own)]⟩
def E40o (h:JH) (ns:List (List UInt8)) (out:List JV):AS:=⟨[(4,.gp 100002 0),(5,.gp 100003 0)],[(100002,.box zV .own),(100003,.box (.agg [iA h.kind,iA 0,.str [],.gs 100004 0 ns.length,.gs 100005 0 out.length]) .own),(100004,.arr 9 1 (ns.map AV.str) .own),(100005,.arr 25 5 (encVs out) .own)]⟩
theorem q45_0 (W:World) (i:Nat) (p:List (List UInt8)):sF W {lp:=true,ol:=true,tl:=[]} 95 [.sl 1 (p.map AV.str) [],.val (.func (.func 73) #[] #[])] [] 100000 [ee,.loopM [] [] (S45 p 0) .ret (R45 i),ee] []=.ok (.ret (iA (i:Int)) [],[ee],[LZ W [] 95 0 (S45 p 0) .ret (R45 i),MatchK [] [] [] {t:=[(0,sL 1 (List.map AV.str p)),(1,.val (Value.func (Fn.func 73) #[] #[])),(7,iA (↑(List.map AV.str p).length:Int)),(8,iA 0)],h:=[]} (S45 p 0)]):=kr
theorem c45_0 (W:World) (i:Nat) (x:List UInt8) (p:List (List UInt8)):sQ W {lp:=true,ol:=true,tl:=[74]} 95 0 [] [0,1,4,7,8] (S45 p i) [bt,aE 1,oS (.str x),ee,.lg,ee,cR (idxA x) [],bt,ee]=.ok ((.ret,{t:=[(0,sL 1 (List.map AV.str p)),(1,.val (Value.func (Fn.func 73) #[] #[])),(4,iA (i:Int)),(7,iA (↑(List.map AV.str p).length:Int)),(8,iA (i:Int))],h:=[]}),[ee],[idxOk x=true,MZ W 74 [.str x] [] (.ret (.tup [iA (↑(idx x):Int),bA (idxOk x)]) []),cloHs [],(List.map AV.str p)[(i:Int).toNat]?=some (AV.str x),decide ((i:Int)<(↑(List.map AV.str p).length:Int))=true]):=kr
theorem c45_1 (W:World) (i:Nat) (x:List UInt8) (p:List (List UInt8)):sQ W {lp:=true,ol:=true,tl:=[74]} 95 0 [] [0,1,4,7,8] (S45 p i) [bt,aE 1,oS (.str x),ee,.lg,ee,cR (idxA x) [],bf,ee]=.ok ((.normal,{t:=[(0,sL 1 (List.map AV.str p)),(1,.val (Value.func (Fn.func 73) #[] #[])),(7,iA (↑(List.map AV.str p).length:Int)),(8,iA (IntKind.i64.wrap ((i:Int)+1)))],h:=[]}),[ee],[idxOk x=false,MZ W 74 [.str x] [] (.ret (.tup [iA (↑(idx x):Int),bA (idxOk x)]) []),cloHs [],(List.map AV.str p)[(i:Int).toNat]?=some (AV.str x),decide ((i:Int)<(↑(List.map AV.str p).length:Int))=true]):=kr
theorem c45_2 (W:World) (i:Nat) (p:List (List UInt8)):sQ W {lp:=true,ol:=true,tl:=[74]} 95 0 [] [0,1,4,7,8] (S45 p i) [bf,ee]=.ok ((.exit 0,{t:=[(0,sL 1 (List.map AV.str p)),(1,.val (Value.func (Fn.func 73) #[] #[])),(7,iA (↑(List.map AV.str p).length:Int)),(8,iA (i:Int))],h:=[]}),[ee],[decide ((i:Int)<(↑(List.map AV.str p).length:Int))=false]):=kr
theorem zhg {p:Prop} (h:p:=by and_intros<;>first|exact trivial|exact gOK_ph' rfl (by decide) rfl|exact gOK_eq rfl rfl rfl|(refine gOK_box rfl rfl rfl ?_;exact zpp)|exact gOK_arr rfl rfl rfl (by assumption)|exact gOK_arr rfl rfl rfl zb|exact gOK_arr rfl rfl hset (by assumption)|exact gOK_arr rfl rfl hsetN zb|exact gOK_arr rfl rfl hsetO zb):p:=h
theorem Tg_z1 {kp f ph σ σ'} (h:MatchK kp f ph σ σ':=by exact ⟨by rfl,(by simp only [S45,R45,S62,E62,fA,L40,E40,O40,E40o,zV,E0,tOK,List.map_cons,List.map_nil,and_true]<;>exact ztq),(by simp only [S45,R45,S62,E62,fA,L40,E40,O40,E40o,zV,E0,hOK,List.map_cons,List.map_nil,and_true]<;>exact zhg),(by simp only [S45,R45,S62,E62,fA,L40,E40,O40,E40o,zV,E0,liveT,List.map_cons,List.map_nil,and_true]<;>exact zvp),(by simp only [S45,R45,S62,E62,fA,L40,E40,O40,E40o,zV,E0,liveH,List.map_cons,List.map_nil,and_true]<;>exact zvp)⟩):MatchK kp f ph σ σ':=h
theorem Tg_z2 {cs} (h:Holds cs:=by simp only [Holds,cloHs,and_true]<;>and_intros<;>first|assumption|exact zd|exact .inl rfl|exact Nat.le_of_eq (ppA_len _).symm|(simp only [List.length_cons,List.length_nil];omega)|exact Tg_z1):Holds cs:=h
theorem Tf_z0 {kp f ph σ σ'} (h:MatchK kp f ph σ σ':=by exact ⟨by rfl,(by simp only [zF,H8,S8,T8,U8,E8,R8,H9,S9,T9,U9,E9,R9,tOK,List.map_cons,List.map_nil,and_true]<;>exact zt),(by simp only [zF,H8,S8,T8,U8,E8,R8,H9,S9,T9,U9,E9,R9,hOK,List.map_cons,List.map_nil,and_true]<;>exact zhq),(by simp only [zF,H8,S8,T8,U8,E8,R8,H9,S9,T9,U9,E9,R9,liveT,List.map_cons,List.map_nil,and_true]<;>exact zvp),(by simp only [zF,H8,S8,T8,U8,E8,R8,H9,S9,T9,U9,E9,R9,liveH,List.map_cons,List.map_nil,and_true]<;>exact zvp)⟩):MatchK kp f ph σ σ':=h
def resD:Except Int (List (List (List UInt8))×Bool)->AV
 | .ok (A,C)=>.tup [.agg [.sl 1 (ppA A) [],bA C],iA 0]
 | .error e=>.tup [.agg [.sl 1 [] [],bA false],iA e]
def resP:Except Int (List (List (List UInt8))×Bool)->AV
 | .ok (A,C)=>.tup [.ip (.agg [.sl 1 (ppA A) [],bA C]) 0,iA 0]
 | .error e=>.tup [.val (.pointer none),iA e]
def pthOk (A:List (List (List UInt8))):Prop:=A.length<=32/\cB A=false/\∀ p ∈ A,p ≠ []
theorem pfR_ok {N:List (List UInt8)} {l:List JV}:∀ (q i:Nat) (acc:List (List (List UInt8))) (c:Bool) {A:List (List (List UInt8))} {C:Bool},pfR N l q i acc c=.ok (A,C)->(∀ p ∈ acc,p ≠ [])->cB acc=false->A.length=acc.length+q/\cB A=false/\∀ p ∈ A,p ≠ []
 | 0,i,acc,c,A,C,h,hn,hb=>by
  rw [pfR] at h
  cases h
  exact ⟨rfl,hb,hn⟩
 | q+1,i,acc,c,A,C,h,hn,hb=>by
  rw [pfR] at h
  split at h
  ·rename_i s x hs hx
   split at h
   ·cases h
   ·rename_i he
    split at h
    ·cases h
    ·split at h
     ·cases h
     ·split at h
      ·cases h
      ·split at h
       ·cases h
       ·rename_i hc
        have h0:=parse_ok (s:=s) (Classical.byContradiction he)
        have:=pfR_ok q (i+1) (acc++[parseP s]) _ h (by
         intro p hp
         rcases List.mem_append.1 hp with hp|hp
         ·exact hn p hp
         ·obtain rfl:=List.mem_singleton.1 hp;exact h0.2.1) (by rw [cB_app,hb,Bool.false_or];simpa using hc)
        refine ⟨?_,this.2⟩
        rw [this.1,List.length_append];simp only [List.length_cons,List.length_nil];omega
  ·cases h
theorem pfV_ok {v:JV} {A:List (List (List UInt8))} {C:Bool} (h:pfV v=.ok (A,C)):pthOk A:=by
 unfold pfV at h
 split at h
 ·cases h
 ·split at h
  ·cases h
  ·rename_i h32
   have:=pfR_ok _ _ _ _ h (fun p hp=>by cases hp) rfl
   exact ⟨by rw [this.1];simp only [List.length_nil];omega,this.2⟩
section
variable (W:World)
theorem parse39 (v:JV) (hN:∀ s ∈ v.names,s.length<=2 ^ 30):Pure Tryz.prog W 39 [encV v] (resD (pfV v)):=by
 obtain ⟨h,l⟩:=v
 have hm:=mut_of_pure (by simp [cloL,encV_clo]) (members22 W (.mk h l))
 have hmem:(JV.mk h l).mem=min h.names.length l.length:=by rw [mem_mk];split<;>omega
 rw [hmem] at hm
 unfold pfV
 show Pure _ _ _ _ (resD (if h.kind ≠ 6 then .error 61 else if 32<min h.names.length l.length then .error 43 else pfR h.names l (min h.names.length l.length) 0 [] false))
 have ler:∀ e:Int,Le (.tup [.agg [.val (.slice none 0 0),bA false],iA e]) (.tup [.agg [.sl 1 [] [],bA false],iA e]):=fun e=>.tup (.cons (.agg (.cons (.nil 1) (.cons (.refl _) .nil))) (.cons (.refl _) .nil))
 by_cases hk:h.kind=6
 case neg =>
  have c1:(!decide (h.kind=6))=true:=by rw [decide_eq_false hk];rfl
  rw [if_pos hk]
  exact pure_leR (ler 61) (pure_of_mut rfl (mut_of_sfun mixedz call39 rfl (q8_0 W h l) Tf_z2))
 have c1:(!decide (h.kind=6))=false:=by rw [decide_eq_true hk];rfl
 rw [if_neg (by simp [hk])]
 by_cases h8:32<min h.names.length l.length
 ·have c2:decide ((32:Int)<((min h.names.length l.length:Nat):Int))=true:=decide_eq_true (by omega)
  rw [if_pos h8]
  exact pure_leR (ler 43) (pure_of_mut rfl (mut_of_sfun mixedz call39 rfl (q8_1 W h l _) Tf_z2))
 have c2:decide ((32:Int)<((min h.names.length l.length:Nat):Int))=false:=decide_eq_false (by omega)
 rw [if_neg h8]
 have hlp:=loop39 W h l (min h.names.length l.length) (by omega) (by omega) (by omega) hN (min h.names.length l.length) 0 [] false (by omega) rfl rfl (by simp)
 rcases hlp with ⟨acc,c,n1,n4⟩|⟨e,n1,n4⟩
 ·rw [n1]
  have hcl:=ppA_clo acc
  clear hN
  generalize ((min h.names.length l.length:Nat):Int)=n at *
  exact pure_frz [(100003,.arr 22 1 (ppA acc) .own)] (mut_of_sfun mixedz call39 rfl (p8_2 W h l acc c n) Tf_z2) (frz2 rfl (ppA_clo acc)) (by
   have e1:List.take acc.length (ppA acc)=ppA acc:=by rw [<-ppA_len acc,List.take_length]
   simp [clA,clL,lk,iA,bA,ppA_len,e1,resD]) (by simp [resD,AV.clo,cloL,ppA_clo,bA,iA])
 ·rw [n1]
  clear hN
  generalize ((min h.names.length l.length:Nat):Int)=n at *
  exact pure_leR (ler e) (pure_of_mut rfl (mut_of_sfun mixedz call39 rfl (q8_2 W h l n e) Tf_z2))
theorem contains72 (p:List (List UInt8)) (hl:p.length<=2 ^ 30):Pure Tryz.prog W 72 [.sl 1 (p.map AV.str) [],.val (.func (.func 73) #[] #[])] (bA (p.any idxOk)):=by
 have loop:∀ (j i:Nat),p.length - i=j->i<=p.length->((p.drop i).any idxOk=false/\LoopC Tryz.prog W [] (nslots Tryz.prog 95) (loopOf Tryz.prog 95 0) (S45 p i) (.exit 0) E0)\/((p.drop i).any idxOk=true/\∃ k:Nat,LoopC Tryz.prog W [] (nslots Tryz.prog 95) (loopOf Tryz.prog 95 0) (S45 p i) .ret (R45 k)):=by
  intro j
  induction j with
  | zero =>
   intro i hj hi
   have e:decide ((i:Int)<(((p.map AV.str).length:Nat):Int))=false:=by rw [List.length_map];exact decide_eq_false (by omega)
   rw [List.drop_of_length_le (l:=p) (by omega)]
   exact .inl ⟨rfl,loop_last (by simp) (body_of_sbodyK mixedz (c45_2 W i p) Tg_z2 [] [] Tg_z1)⟩
  | succ j ihj =>
   intro i hj hi
   obtain ⟨x,hx⟩:=getOf (l:=p) (i:=i) (by omega)
   have e:decide ((i:Int)<(((p.map AV.str).length:Nat):Int))=true:=by rw [List.length_map];exact decide_eq_true (by omega)
   have hget:(p.map AV.str)[((i:Int)).toNat]?=some (AV.str x):=by rw [Int.toNat_natCast];exact strs_get hx
   have hws:IntKind.i64.wrap ((i:Int)+1)=((i+1:Nat):Int):=wrap_succ (by omega)
   have hc:MutC Tryz.prog W 74 [.str x] [] (.ret (idxA x) []):=mut_of_pure (by rfl) (index91 W x)
   unfold idxA at hc
   rw [drop_get hx,List.any_cons]
   cases hn:idxOk x with
   | true=>exact .inr ⟨rfl,i,loop_last (by simp) (body_of_sbodyK mixedz (c45_0 W i x p) Tg_z2 [] [] Tg_z1)⟩
   | false =>
    rw [Bool.false_or]
    have hb:=body_of_sbodyK mixedz (c45_1 W i x p) Tg_z2 [] [] (σ3:=S45 p (i+1)) Tg_z1
    rcases ihj (i+1) (by omega) (by omega) with ⟨g1,g2⟩|⟨g1,k,g2⟩
    ·exact .inl ⟨g1,loop_next hb g2⟩
    ·exact .inr ⟨g1,k,loop_next hb g2⟩
 rcases loop p.length 0 (by omega) (by omega) with ⟨g,hlp⟩|⟨g,k,hlp⟩
 ·rw [show p.any idxOk=false by simpa using g]
  have h45:Pure Tryz.prog W 95 [.sl 1 (p.map AV.str) [],.val (.func (.func 73) #[] #[])] (iA (-1)):=pure_of_mut rfl (mut_of_sfun mixedz call45h rfl (p45_0 W p) Tg_z2)
  have hc:=mut_of_pure (by rfl) h45
  exact pure_of_mut rfl (mut_of_sfun mixedz call26h rfl (p26_0 W p (-1)) Tg_z2)
 ·rw [show p.any idxOk=true by simpa using g]
  have h45:Pure Tryz.prog W 95 [.sl 1 (p.map AV.str) [],.val (.func (.func 73) #[] #[])] (iA (k:Nat)):=pure_of_mut rfl (mut_of_sfun mixedz call45h rfl (q45_0 W k p) Tg_z2)
  have hc:=mut_of_pure (by rfl) h45
  have e:decide ((0:Int)<=(k:Int))=true:=decide_eq_true (by omega)
  have h2:=pure_of_mut rfl (mut_of_sfun mixedz call26h rfl (p26_0 W p k) Tg_z2)
  rw [e] at h2
  exact h2
theorem any9 (h:JH) (l:List JV) (acc:List (List (List UInt8))) (c:Bool) (n:Int) (i:Nat) (p:List (List UInt8)) (hp:p.length<=16) (ha:acc.length<=32):∀ (j k:Nat),acc.length - k=j->k<=acc.length →
 (anyC p (acc.drop k)=false/\LoopC Tryz.prog W [] (nslots Tryz.prog 55) (loopOf Tryz.prog 55 1) (T9 h l acc c n i p k) (.exit 2) (U9 h l acc c n i p))\/(anyC p (acc.drop k)=true/\LoopC Tryz.prog W [] (nslots Tryz.prog 55) (loopOf Tryz.prog 55 1) (T9 h l acc c n i p k) .ret (R9 23)):=by
 have hcl:=ppA_clo acc
 intro j
 induction j with
 | zero =>
  intro k hj hk
  have e:decide ((k:Int)<(acc.length:Int))=false:=decide_eq_false (by omega)
  rw [List.drop_of_length_le (l:=acc) (by omega)]
  exact .inl ⟨rfl,loop_last (by simp) (body_of_sbodyK mixedz (d9_2 W h l acc c n i k p) Tf_z2 [] [] Tf_z1)⟩
 | succ j ihj =>
  intro k hj hk
  obtain ⟨q2,hx⟩:=getOf (l:=acc) (i:=k) (by omega)
  have e:decide ((k:Int)<(acc.length:Int))=true:=decide_eq_true (by omega)
  have hr:(0:Int)<=(k:Int)/\(k:Int)<(acc.length:Int):=by omega
  have hget0:=ppA_get hx
  have hget:(ppA acc)[0+((k:Int)).toNat]?=some (.sl 1 (q2.map AV.str) []):=by rw [Int.toNat_natCast,Nat.zero_add];exact hget0
  have hws:IntKind.i64.wrap ((k:Int)+1)=((k+1:Nat):Int):=wrap_succ (by omega)
  have hc:MutC Tryz.prog W 75 [.sl 1 (p.map AV.str) [],.sl 1 (q2.map AV.str) []] [] (.ret (bA (clashB p q2)) []):=mut_of_pure (by simp only [cloL,AV.clo,cloL_str,Bool.and_self]) (clash29 W p q2 (by omega))
  obtain ⟨hr1,hr2⟩:=hr
  rw [anyC_at hx]
  cases hn:clashB p q2 with
  | true =>
   rw [hn] at hc
   exact .inr ⟨rfl,loop_last (by simp) (body_of_sbodyK mixedz (d9_0 W h l acc c true n i k p q2) Tf_z2 [] [] Tf_z1)⟩
  | false =>
   rw [hn] at hc
   rw [Bool.false_or]
   have hb:=body_of_sbodyK mixedz (d9_1 W h l acc c false n i k p q2) Tf_z2 [] [] (σ3:=T9 h l acc c n i p (k+1)) Tf_z1
   rcases ihj (k+1) (by omega) (by omega) with ⟨g1,g2⟩|⟨g1,g2⟩
   ·exact .inl ⟨g1,loop_next hb g2⟩
   ·exact .inr ⟨g1,loop_next hb g2⟩
theorem loop55 (h:JH) (l:List JV) (N:Nat) (h32:N<=32) (hmn:N<=h.names.length) (hml:N<=l.length) (hN:∀ s ∈ h.names,s.length<=2 ^ 30):∀ (q i:Nat) (acc:List (List (List UInt8))) (c:Bool),i+q=N->acc.length=i->cB acc=false->(∀ p ∈ acc,p.length<=16) →
 (∃ A C,pfR h.names l q i acc c=.ok (A,C)/\LoopC Tryz.prog W [] (nslots Tryz.prog 55) (loopOf Tryz.prog 55 0) (S9 h l acc c N i) (.exit 0) (E9 A C))\/(∃ e,pfR h.names l q i acc c=.error e/\LoopC Tryz.prog W [] (nslots Tryz.prog 55) (loopOf Tryz.prog 55 0) (S9 h l acc c N i) .ret (R9 e)):=by
 intro q
 induction q with
 | zero =>
  intro i acc c hq hi hB h16
  have hcl:=ppA_clo acc
  have e:decide ((i:Int)<(N:Int))=false:=decide_eq_false (by omega)
  clear hN
  exact .inl ⟨acc,c,rfl,loop_last (by simp) (body_of_sbodyK mixedz (b9x_10 W h l acc c N i) Tf_z2 [] [] Tf_z1)⟩
 | succ q ih =>
  intro i acc c hq hi hB h16
  have hcl:=ppA_clo acc
  obtain ⟨s,hs⟩:=getOf (l:=h.names) (i:=i) (by omega)
  obtain ⟨x,hx⟩:=getOf (l:=l) (i:=i) (by omega)
  have hsl:=hN s (List.mem_of_getElem? hs)
  have c0:decide ((i:Int)<(N:Int))=true:=decide_eq_true (by omega)
  have hgs:(List.map AV.str h.names)[((i:Int)).toNat]?=some (AV.str s):=by rw [Int.toNat_natCast];exact strs_get hs
  have hgx:(encVs l)[((i:Int)).toNat]?=some (encV x):=by rw [Int.toNat_natCast];exact encVs_get hx
  have hws:IntKind.i64.wrap ((i:Int)+1)=((i+1:Nat):Int):=wrap_succ (by omega)
  have hP:MutC Tryz.prog W 71 [.str s] [] (.ret (parseAV s) []):=mut_of_pure (by rfl) (Parse76 W s hsl)
  unfold parseAV at hP
  have hp16:=parse_len s
  have hl2:(acc++[parseP s]).length=acc.length+1:=by simp
  have hB2:cB (acc++[parseP s])=anyC (parseP s) acc:=by rw [cB_app,hB,Bool.false_or]
  have h162:∀ q ∈ acc++[parseP s],q.length<=16:=by
   intro q hq
   rcases List.mem_append.1 hq with hq|hq
   ·exact h16 q hq
   ·obtain rfl:=List.mem_singleton.1 hq;exact hp16
  obtain ⟨hx',lx⟩:=x
  have nx:=fun hc=>ih (i+1) (acc++[parseP s]) (decide (hx'.int=1)) (by omega) (by omega) hc h162
  have hset:=ppA_push acc (parseP s)
  have hcl2:=ppA_clo (acc++[parseP s])
  have hcl3:cloL (List.take acc.length (ppA acc)++[AV.sl 1 ((parseP s).map AV.str) []])=true:=by rw [hset];exact hcl2
  rw [hB2] at nx
  have hC:MutC Tryz.prog W 72 [.sl 1 ((parseP s).map AV.str) [],.val (.func (.func 73) #[] #[])] [] (.ret (bA ((parseP s).any idxOk)) []):=mut_of_pure (by simp only [cloL,AV.clo,cloL_str,Bool.and_self]) (contains72 W _ (by omega))
  have hA:=any9 W h l acc (decide (hx'.int=1)) N i (parseP s) hp16 (by omega) acc.length 0 (by omega) (by omega)
  rw [List.drop_zero] at hA
  rw [pfR,hs,hx]
  simp only
  clear hN ih h16 h162 hB2
  have hlen32:acc.length<32:=by omega
  by_cases he:parseE s=0
  case neg =>
   have c1:(!decide (parseE s=0))=true:=by rw [decide_eq_false he];rfl
   rw [if_pos he]
   clear nx hA hC
   exact .inr ⟨20,rfl,loop_last (by simp) (body_of_sbodyK mixedz (b9x_0 W h l acc c N _ _ i s _) Tf_z2 [] [] Tf_z1)⟩
  have c1:(!decide (parseE s=0))=false:=by rw [decide_eq_true he];rfl
  rw [if_neg (by simp [he])]
  generalize parseE s=e at *
  generalize parseA s=a at *
  generalize parseP s=p at *
  cases g:p.any idxOk with
  | true =>
   rw [if_pos rfl]
   rw [g] at hC
   clear nx hA
   exact .inr ⟨20,rfl,loop_last (by simp) (body_of_sbodyK mixedz (b9x_1 W h l acc c true N e a i s p) Tf_z2 [] [] Tf_z1)⟩
  | false =>
  rw [if_neg (by simp)]
  rw [g] at hC
  show (∃ A C,(if hx'.kind ≠ 3\/hx'.int ≠ 0/\hx'.int ≠ 1 then Except.error 61 else if 0<i/\c ≠ decide (hx'.int=1) then Except.error 62 else if anyC p acc=true then Except.error 23 else pfR h.names l q (i+1) (acc++[p]) (decide (hx'.int=1)))=.ok (A,C)/\LoopC Tryz.prog W [] (nslots Tryz.prog 55) (loopOf Tryz.prog 55 0) (S9 h l acc c N i) (.exit 0) (E9 A C))\/(∃ e,(if hx'.kind ≠ 3\/hx'.int ≠ 0/\hx'.int ≠ 1 then Except.error 61 else if 0<i/\c ≠ decide (hx'.int=1) then Except.error 62 else if anyC p acc=true then Except.error 23 else pfR h.names l q (i+1) (acc++[p]) (decide (hx'.int=1)))=.error e/\LoopC Tryz.prog W [] (nslots Tryz.prog 55) (loopOf Tryz.prog 55 0) (S9 h l acc c N i) .ret (R9 e))
  by_cases hk:hx'.kind=3
  case neg =>
   have c2:(!decide (hx'.kind=3))=true:=by rw [decide_eq_false hk];rfl
   rw [if_pos (show hx'.kind ≠ 3\/hx'.int ≠ 0/\hx'.int ≠ 1 from .inl hk)]
   clear nx
   exact .inr ⟨61,rfl,loop_last (by simp) (body_of_sbodyK mixedz (b9x_2 W h hx' l lx acc c false N e a i s p) Tf_z2 [] [] Tf_z1)⟩
  have c2:(!decide (hx'.kind=3))=false:=by rw [decide_eq_true hk];rfl
  have bad:hx'.int=0\/hx'.int=1->¬ (hx'.kind ≠ 3\/(hx'.int ≠ 0/\hx'.int ≠ 1)):=fun h1 h2=>h2.elim (fun h=>h hk) fun h=>h1.elim h.1 h.2
  have fin:(hx'.int=0\/hx'.int=1)->(0<i->(!c == decide (hx'.int=1))=true->LoopC Tryz.prog W [] (nslots Tryz.prog 55) (loopOf Tryz.prog 55 0) (S9 h l acc c N i) .ret (R9 62)) →
   ((0<i->(!c == decide (hx'.int=1))=false)->anyC p acc=true->LoopC Tryz.prog W [] (nslots Tryz.prog 55) (loopOf Tryz.prog 55 0) (S9 h l acc c N i) .ret (R9 23)) →
   ((0<i->(!c == decide (hx'.int=1))=false)->anyC p acc=false->∀ e σ,LoopC Tryz.prog W [] (nslots Tryz.prog 55) (loopOf Tryz.prog 55 0) (S9 h l (acc++[p]) (decide (hx'.int=1)) N (i+1)) e σ->LoopC Tryz.prog W [] (nslots Tryz.prog 55) (loopOf Tryz.prog 55 0) (S9 h l acc c N i) e σ) →
   (∃ A C,(if hx'.kind ≠ 3\/hx'.int ≠ 0/\hx'.int ≠ 1 then Except.error 61 else if 0<i/\c ≠ decide (hx'.int=1) then Except.error 62 else if anyC p acc=true then Except.error 23 else pfR h.names l q (i+1) (acc++[p]) (decide (hx'.int=1)))=.ok (A,C)/\LoopC Tryz.prog W [] (nslots Tryz.prog 55) (loopOf Tryz.prog 55 0) (S9 h l acc c N i) (.exit 0) (E9 A C))\/(∃ e,(if hx'.kind ≠ 3\/hx'.int ≠ 0/\hx'.int ≠ 1 then Except.error 61 else if 0<i/\c ≠ decide (hx'.int=1) then Except.error 62 else if anyC p acc=true then Except.error 23 else pfR h.names l q (i+1) (acc++[p]) (decide (hx'.int=1)))=.error e/\LoopC Tryz.prog W [] (nslots Tryz.prog 55) (loopOf Tryz.prog 55 0) (S9 h l acc c N i) .ret (R9 e)):=by
   intro h01 f62 f23 fok
   rw [if_neg (bad h01)]
   by_cases h62:0<i/\c ≠ decide (hx'.int=1)
   ·rw [if_pos h62]
    exact .inr ⟨62,rfl,f62 h62.1 (bne_t h62.2)⟩
   ·rw [if_neg h62]
    have h62':0<i->(!c == decide (hx'.int=1))=false:=fun h0=>bne_f fun h1=>h62 ⟨h0,h1⟩
    cases hy:anyC p acc with
    | true=>rw [if_pos rfl];exact .inr ⟨23,rfl,f23 h62' hy⟩
    | false =>
     rw [if_neg (by simp)]
     rcases nx hy with ⟨A,C,n1,n2⟩|⟨e,n1,n2⟩
     ·exact .inl ⟨A,C,n1,fok h62' hy _ _ n2⟩
     ·exact .inr ⟨e,n1,fok h62' hy _ _ n2⟩
  clear nx
  by_cases h0:hx'.int=0
  ·have c3:(!decide (hx'.int=0))=false:=by rw [decide_eq_true h0];rfl
   refine fin (.inl h0) (fun hi0 c4=>?_) (fun hc hy=>?_) (fun hc hy e2 σ2 n1=>?_)
   ·have c5:decide ((0:Int)<(i:Int))=true:=decide_eq_true (by omega)
    clear fin bad
    exact loop_last (by simp) (body_of_sbodyK mixedz (b9x_7 W h hx' l lx acc c false N e a i s p) Tf_z2 [] [] Tf_z1)
   ·rcases hA with ⟨hz,hA⟩|⟨hz,hA⟩
    all_goals (rw [hy] at hz)
    all_goals first|(cases hz;done)|skip
    clear fin bad
    by_cases hi0:0<i
    ·have c5:decide ((0:Int)<(i:Int))=true:=decide_eq_true (by omega)
     have c4:=hc hi0
     exact loop_last (by simp) (body_of_sbodyK mixedz (b9r_8 W h hx' l lx acc c false N e a i s p) Tf_z2 [] [] Tf_z1)
    ·have c5:decide ((0:Int)<(i:Int))=false:=decide_eq_false (by omega)
     exact loop_last (by simp) (body_of_sbodyK mixedz (b9r_9 W h hx' l lx acc c false N e a i s p) Tf_z2 [] [] Tf_z1)
   ·rcases hA with ⟨hz,hA⟩|⟨hz,hA⟩
    all_goals (rw [hy] at hz)
    all_goals first|(cases hz;done)|skip
    clear fin bad
    have hgl:acc.length+[AV.sl 1 (p.map AV.str) []].length=(acc++[p]).length:=by rw [List.length_append];rfl
    by_cases hi0:0<i
    ·have c5:decide ((0:Int)<(i:Int))=true:=decide_eq_true (by omega)
     have c4:=hc hi0
     exact loop_next (body_of_sbodyK mixedz (b9x_8 W h hx' l lx acc c false N e a i s p) (by clear n1;exact Tf_z2) [(100002,100004)] [] (σ3:=S9 h l (acc++[p]) (decide (hx'.int=1)) N (i+1)) (by clear n1;exact Tf_z1)) n1
    ·have c5:decide ((0:Int)<(i:Int))=false:=decide_eq_false (by omega)
     exact loop_next (body_of_sbodyK mixedz (b9x_9 W h hx' l lx acc c false N e a i s p) (by clear n1;exact Tf_z2) [(100002,100004)] [] (σ3:=S9 h l (acc++[p]) (decide (hx'.int=1)) N (i+1)) (by clear n1;exact Tf_z1)) n1
  have c3:(!decide (hx'.int=0))=true:=by rw [decide_eq_false h0];rfl
  by_cases h1:hx'.int=1
  ·have c6:(!decide (hx'.int=1))=false:=by rw [decide_eq_true h1];rfl
   refine fin (.inr h1) (fun hi0 c4=>?_) (fun hc hy=>?_) (fun hc hy e2 σ2 n1=>?_)
   ·have c5:decide ((0:Int)<(i:Int))=true:=decide_eq_true (by omega)
    clear fin bad
    exact loop_last (by simp) (body_of_sbodyK mixedz (b9x_4 W h hx' l lx acc c false N e a i s p) Tf_z2 [] [] Tf_z1)
   ·rcases hA with ⟨hz,hA⟩|⟨hz,hA⟩
    all_goals (rw [hy] at hz)
    all_goals first|(cases hz;done)|skip
    clear fin bad
    by_cases hi0:0<i
    ·have c5:decide ((0:Int)<(i:Int))=true:=decide_eq_true (by omega)
     have c4:=hc hi0
     exact loop_last (by simp) (body_of_sbodyK mixedz (b9r_5 W h hx' l lx acc c false N e a i s p) Tf_z2 [] [] Tf_z1)
    ·have c5:decide ((0:Int)<(i:Int))=false:=decide_eq_false (by omega)
     exact loop_last (by simp) (body_of_sbodyK mixedz (b9r_6 W h hx' l lx acc c false N e a i s p) Tf_z2 [] [] Tf_z1)
   ·rcases hA with ⟨hz,hA⟩|⟨hz,hA⟩
    all_goals (rw [hy] at hz)
    all_goals first|(cases hz;done)|skip
    clear fin bad
    have hgl:acc.length+[AV.sl 1 (p.map AV.str) []].length=(acc++[p]).length:=by rw [List.length_append];rfl
    by_cases hi0:0<i
    ·have c5:decide ((0:Int)<(i:Int))=true:=decide_eq_true (by omega)
     have c4:=hc hi0
     exact loop_next (body_of_sbodyK mixedz (b9x_5 W h hx' l lx acc c false N e a i s p) (by clear n1;exact Tf_z2) [(100002,100004)] [] (σ3:=S9 h l (acc++[p]) (decide (hx'.int=1)) N (i+1)) (by clear n1;exact Tf_z1)) n1
    ·have c5:decide ((0:Int)<(i:Int))=false:=decide_eq_false (by omega)
     exact loop_next (body_of_sbodyK mixedz (b9x_6 W h hx' l lx acc c false N e a i s p) (by clear n1;exact Tf_z2) [(100002,100004)] [] (σ3:=S9 h l (acc++[p]) (decide (hx'.int=1)) N (i+1)) (by clear n1;exact Tf_z1)) n1
  ·have c6:(!decide (hx'.int=1))=true:=by rw [decide_eq_false h1];rfl
   rw [if_pos (show hx'.kind ≠ 3\/hx'.int ≠ 0/\hx'.int ≠ 1 from .inr ⟨h0,h1⟩)]
   clear fin bad
   exact .inr ⟨61,rfl,loop_last (by simp) (body_of_sbodyK mixedz (b9x_3 W h hx' l lx acc c false N e a i s p) Tf_z2 [] [] Tf_z1)⟩
theorem parse55 (v:JV) (hN:∀ s ∈ v.names,s.length<=2 ^ 30):Pure Tryz.prog W 55 [encV v] (resP (pfV v)):=by
 obtain ⟨h,l⟩:=v
 have hlen:=encVs_len l
 have hm:(if ((encVs l).length:Int)<((List.map AV.str h.names).length:Int) then ((encVs l).length:Int) else ((List.map AV.str h.names).length:Int))=((min h.names.length l.length:Nat):Int):=by
  rw [hlen,List.length_map];split<;>omega
 unfold pfV
 show Pure _ _ _ _ (resP (if h.kind ≠ 6 then .error 61 else if 32<min h.names.length l.length then .error 43 else pfR h.names l (min h.names.length l.length) 0 [] false))
 by_cases hk:h.kind=6
 case neg =>
  have c1:(!decide (h.kind=6))=true:=by rw [decide_eq_false hk];rfl
  rw [if_pos hk]
  exact pure_of_mut rfl (mut_of_sfun mixedz call55 rfl (q9_0 W h l) Tf_z2)
 have c1:(!decide (h.kind=6))=false:=by rw [decide_eq_true hk];rfl
 rw [if_neg (by simp [hk])]
 by_cases h8:32<min h.names.length l.length
 ·have c2:decide ((32:Int)<(if ((encVs l).length:Int)<((List.map AV.str h.names).length:Int) then ((encVs l).length:Int) else ((List.map AV.str h.names).length:Int)))=true:=by rw [hm];exact decide_eq_true (by omega)
  rw [if_pos h8]
  exact pure_of_mut rfl (mut_of_sfun mixedz call55 rfl (q9_1 W h l) Tf_z2)
 have c2:decide ((32:Int)<(if ((encVs l).length:Int)<((List.map AV.str h.names).length:Int) then ((encVs l).length:Int) else ((List.map AV.str h.names).length:Int)))=false:=by rw [hm];exact decide_eq_false (by omega)
 rw [if_neg h8]
 have hlp:=loop55 W h l (min h.names.length l.length) (by omega) (by omega) (by omega) hN (min h.names.length l.length) 0 [] false (by omega) rfl rfl (by simp)
 rcases hlp with ⟨acc,c,n1,n4⟩|⟨e,n1,n4⟩
 ·rw [n1]
  have hcl:=ppA_clo acc
  rw [hm] at c2
  generalize hnn:((min h.names.length l.length:Nat):Int)=n at *
  have m1:MatchK [] [] [] {t:=[(0,.tup [.gp 100001 0,iA 0])],h:=[(100001,gB (.agg [.gs 100002 0 acc.length,bA c])),(100002,.arr 22 1 (ppA acc) .own)]} {t:=[(0,.tup [.gp 100001 0,iA 0])],h:=[(100001,gB (.agg [.gs 100002 0 acc.length,bA c])),(100002,.arr 22 1 (ppA acc) .own)]}:=Tf_z0
  have m2:MatchK [] [] [(100002,1)] {t:=[(1,.gp 100000 0),(5,.gp 100001 0),(27,iA n),(28,iA 0)],h:=[(100000,gB (eV h l)),(100001,gB (.agg [.val (Value.slice none 0 0),bA false]))]} (S9 h l [] false n 0):=Tf_z0
  have hq:=(p9_2 W h l acc c n)
  rw [hm] at hq
  have h1:=mut_of_sfun mixedz call55 rfl hq ⟨m1,n4,m2,c2,c1,trivial⟩
  have e1:clA [(100002,.arr 22 1 (ppA acc) .own)] (.agg [.gs 100002 0 acc.length,bA c])=.agg [.sl 1 (ppA acc) [],bA c]:=by
   simp [clA,clL,lk,iA,bA,ppA_len];try exact List.take_of_length_le (by simp [ppA_len])
  have h2:=mut_frzD (r2:=.tup [.gp 100001 0,iA 0]) (h2:=[(100001,.box (.agg [.sl 1 (ppA acc) [],bA c]) .own)]) [(100002,.arr 22 1 (ppA acc) .own)] h1 (frz2 rfl (ppA_clo acc)) (by simp [clA,clL,lk,iA]) (by
   have e3:frzL1 [(100002,.arr 22 1 (ppA acc) .own)] [(100001,.box (.agg [.gs 100002 0 acc.length,bA c]) .own),(100002,.arr 22 1 (ppA acc) .own)]=[(100001,.box (.agg [.sl 1 (ppA acc) [],bA c]) .own),(100002,.arr 22 1 (ppA acc) .frz)]:=by
    rw [<-e1];rfl
   rw [e3];rfl)
  exact pure_frz [(100001,.box (.agg [.sl 1 (ppA acc) [],bA c]) .own)] h2 (frz2 rfl (by simp [Frzable,AV.clo,cloL,ppA_clo,bA])) (by simp [clA,clL,lk,iA,resP]) (by simp [AV.clo,cloL,ppA_clo,bA,iA,resP])
 ·rw [n1]
  rw [hm] at c2
  generalize hnn:((min h.names.length l.length:Nat):Int)=n at *
  have m2:MatchK [] [] [(100002,1)] {t:=[(1,.gp 100000 0),(5,.gp 100001 0),(27,iA n),(28,iA 0)],h:=[(100000,gB (eV h l)),(100001,gB (.agg [.val (Value.slice none 0 0),bA false]))]} (S9 h l [] false n 0):=Tf_z0
  have hq:=(q9_2 W h l n e)
  rw [hm] at hq
  exact pure_of_mut rfl (mut_of_sfun mixedz call55 rfl hq ⟨n4,m2,c2,c1,trivial⟩)
end
end Go.Ac

