/- What is proved: contracts of functions of this translation, walked; their plain meaning. No condition beyond those that each theorem names. -/
import Derived.Test.YtdalodgajiodhaaGreatDoorMb5
set_option linter.all false
namespace Go.Ac
open Go Go.Proofs Go.RowKit
set_option maxRecDepth 10000
set_option maxHeartbeats 1000000
namespace De
open Dd
def T40 (h:JH) (l:List JV) (D:List GDoc) (i:Nat):AS:=⟨[(1,.sl 7 (docsG D) []),(2,.gp 100000 0),(5,iA i)],[(100000,.box (encV (.mk h l)) .own)]⟩
def T41 (h:JH) (l:List JV) (D:List GDoc) (i k:Nat):AS:=⟨[(1,.sl 7 (docsG D) []),(2,.gp 100000 0),(5,iA i),(6,iA k)],[(100000,.box (encV (.mk h l)) .own)]⟩
def E40 (h:JH) (l:List JV) (D:List GDoc):AS:=⟨[(1,.sl 7 (docsG D) []),(2,.gp 100000 0)],[(100000,.box (encV (.mk h l)) .own)]⟩
def R4b (b:Bool):AS:=⟨[(4,bA b)],[]⟩
def T42 (KK:KS) (D:List GDoc) (i:Nat):AS:=⟨[(1,.sl 7 (docsG D) []),(7,sortA KK),(11,iA i)],[]⟩
def E42 (KK:KS) (D:List GDoc):AS:=⟨[(1,.sl 7 (docsG D) []),(7,sortA KK)],[]⟩
def T43 (KK:KS) (D:List GDoc) (i k:Nat):AS:=⟨[(1,.sl 7 (docsG D) []),(7,sortA KK),(11,iA i),(12,iA k)],[]⟩
def T44 (KK:KS) (D:List GDoc) (i k j:Nat) (z:Int):AS:=⟨[(1,.sl 7 (docsG D) []),(7,sortA KK),(11,iA i),(12,iA k),(13,iA z),(14,iA j)],[]⟩
def T45 (KK:KS) (D R B:List GDoc) (z:Int):AS:=⟨[(1,.sl 7 (docsG D) []),(7,sortA KK),(15,.sl 7 (docsG R) []),(16,.gs 100000 0 B.length),(17,iA z)],[(100000,.arr 40 7 (docsG B) .own)]⟩
def E45 (KK:KS) (D R B:List GDoc):AS:=⟨[(1,.sl 7 (docsG D) []),(7,sortA KK),(15,.sl 7 (docsG R) []),(16,.gs 100000 0 B.length)],[(100000,.arr 40 7 (docsG B) .own)]⟩
def Z45 (KK:KS) (D R B:List GDoc):AS:=⟨[(1,.sl 7 (docsG D) []),(7,sortA KK),(15,.sl 7 (docsG R) []),(16,.sl 7 (docsG B) [])],[]⟩
def T46 (KK:KS) (D R:List GDoc) (i:Nat):AS:=⟨[(1,.sl 7 (docsG D) []),(7,sortA KK),(15,.sl 7 (docsG R) []),(19,iA i)],[]⟩
def E46:AS:=⟨[],[]⟩
def S18 (A:List GDoc) (x:GDoc) (n i:Nat):AS:=⟨[(0,.sl 7 (docsG A) []),(3,.gp 100000 0),(5,iA n),(6,iA i)],[(100000,.box (docG x) .own)]⟩
def E18 (n:Nat):AS:=⟨[(5,iA n)],[]⟩
theorem p18_0 (W:World) (A:List GDoc) (x:GDoc) (h:JH) (l:List JV) (n:Nat):sF W {lp:=true,ol:=true,tl:=[41]} 18 [.sl 7 (docsG A) [],docG x] [] 100000 [ee,.loopM [] [] (S18 A x 0 0) (.exit 0) (E18 n),ee] []=.ok (.ret (iA (n:Int)) [],[ee],[LZ W [] 18 0 (S18 A x 0 0) (.exit 0) (E18 n),MatchK [] [] [] {t:=[(0,sL 7 (docsG A)),(3,.gp 100000 0),(5,iA 0),(6,iA 0)],h:=[(100000,gB (.agg [.str x.1,iA x.ver,iA x.h.kind,iA x.h.int,.str x.h.3,sL 1 (List.map AV.str x.h.names),sL 5 (encVs x.l)]))]} (S18 A x 0 0)]):=kr
theorem p4g_0 (W:World) (D0:List Doc) (h:JH) (l:List JV) (b:Bool):sF W {lp:=true,ol:=true,tl:=[7,8,9,10,11,13,15,17,18]} 4 [eV h l,.sl 7 (docsA D0) []] [] 100000 [ee,.lg,ee,cR (bA b) [(100001,.arr 25 5 [eV h l] .own)],bt,bt,bt,ee,.lg,ee,cR (bA true) [],ee] []=.ok (.ret (bA true) [],[ee],[MZ W 9 [] [] (.ret (bA true) []),cloHs [],b=true,b=true,b=true,MZ W 7 [.gs 100001 0 1] [(100001,.arr 25 5 [eV h l] .own)] (.ret (bA b) [(100001,.arr 25 5 [eV h l] .own)]),cloHs [(100001,.arr 25 5 [eV h l] .own)]]):=kr
theorem p4g_1 (W:World) (D0:List Doc) (h:JH) (l:List JV) (b b2:Bool):sF W {lp:=true,ol:=true,tl:=[7,8,9,10,11,13,15,17,18]} 4 [eV h l,.sl 7 (docsA D0) []] [] 100000 [ee,.lg,ee,cR (bA b) [(100001,.arr 25 5 [eV h l] .own)],bf,bf,ee,.lg,ee,cR (bA b2) [],bf,bt,bt,bt,bt,ee,.lg,ee,cR (bA true) [],ee] []=.ok (.ret (bA true) [],[ee],[MZ W 9 [] [] (.ret (bA true) []),cloHs [],b2=true,b2=true,b2=true,b2=true,b=false,MZ W 8 [sL 7 (docsA D0)] [] (.ret (bA b2) []),cloHs [],b=false,b=false,MZ W 7 [.gs 100001 0 1] [(100001,.arr 25 5 [eV h l] .own)] (.ret (bA b) [(100001,.arr 25 5 [eV h l] .own)]),cloHs [(100001,.arr 25 5 [eV h l] .own)]]):=kr
theorem p4g_2 (W:World) (D0:List Doc) (h:JH) (l:List JV) (b b2:Bool):sF W {lp:=true,ol:=true,tl:=[7,8,9,10,11,13,15,17,18]} 4 [eV h l,.sl 7 (docsA D0) []] [] 100000 [ee,.lg,ee,cR (bA b) [(100001,.arr 25 5 [eV h l] .own)],bf,bf,ee,.lg,ee,cR (bA b2) [],bf,bf,bf,bf,bf,bt,ee,.lg,ee,cR (bA true) [],ee] []=.ok (.ret (bA true) [],[ee],[MZ W 9 [] [] (.ret (bA true) []),cloHs [],decide (30<(↑(docsA D0).length:Int))=true,b2=false,b2=false,b2=false,b2=false,b=false,MZ W 8 [sL 7 (docsA D0)] [] (.ret (bA b2) []),cloHs [],b=false,b=false,MZ W 7 [.gs 100001 0 1] [(100001,.arr 25 5 [eV h l] .own)] (.ret (bA b) [(100001,.arr 25 5 [eV h l] .own)]),cloHs [(100001,.arr 25 5 [eV h l] .own)]]):=kr
theorem p4d_0 (W:World) (D:List GDoc) (h:JH) (l:List JV):sF W {lp:=true,ol:=true,tl:=[7,8,9,10,11,13,15,17,18]} 4 [eV h l,.sl 7 (docsG D) []] [] 100000 [ee,.lg,ee,cR (bA false) [(100001,.arr 25 5 [eV h l] .own)],ee,.lg,ee,cR (bA false) [],aE 5,bf,ee,.loopM [] [] (T40 h l D 0) .ret (R4b true),ee] []=.ok (.ret (bA true) [],[ee],[LZ W [] 4 0 (T40 h l D 0) .ret (R4b true),MatchK [] [] [] {t:=[(1,sL 7 (docsG D)),(2,.gp 100000 0),(5,iA 0)],h:=[(100000,gB (eV h l)),(100001,.arr 25 5 [eV h l] .own)]} (T40 h l D 0),decide (30<(↑(docsG D).length:Int))=false,MZ W 8 [sL 7 (docsG D)] [] (.ret (bA false) []),cloHs [],MZ W 7 [.gs 100001 0 1] [(100001,.arr 25 5 [eV h l] .own)] (.ret (bA false) [(100001,.arr 25 5 [eV h l] .own)]),cloHs [(100001,.arr 25 5 [eV h l] .own)]]):=kr
theorem p4e_0 (W:World) (D:List GDoc) (h:JH) (l:List JV) (e:Int):sF W {lp:=true,ol:=true,tl:=[7,8,9,10,11,13,15,17,18]} 4 [eV h l,.sl 7 (docsG D) []] [] 100000 [ee,.lg,ee,cR (bA false) [(100001,.arr 25 5 [eV h l] .own)],ee,.lg,ee,cR (bA false) [],aE 5,bf,ee,.loopM [] [] (T40 h l D 0) (.exit 0) (E40 h l D),ee,.lg,ee,cR (.tup [.val (Value.pointer none),iA e]) [],ee,.lg,ee,cR (.tup [.val (Value.slice none 0 0),iA e]) [],bt,ee,.lg,ee,cR (bA true) [],ee] []=.ok (.ret (bA true) [],[ee],[MZ W 9 [] [] (.ret (bA true) []),cloHs [],(!decide (e=0))=true,MZ W 11 [eV h l] [] (.ret (.tup [.val (Value.slice none 0 0),iA e]) []),cloHs [],MZ W 10 [eV h l] [] (.ret (.tup [.val (Value.pointer none),iA e]) []),cloHs [],LZ W [] 4 0 (T40 h l D 0) (.exit 0) (E40 h l D),MatchK [] [] [] {t:=[(1,sL 7 (docsG D)),(2,.gp 100000 0),(5,iA 0)],h:=[(100000,gB (eV h l)),(100001,.arr 25 5 [eV h l] .own)]} (T40 h l D 0),decide (30<(↑(docsG D).length:Int))=false,MZ W 8 [sL 7 (docsG D)] [] (.ret (bA false) []),cloHs [],MZ W 7 [.gs 100001 0 1] [(100001,.arr 25 5 [eV h l] .own)] (.ret (bA false) [(100001,.arr 25 5 [eV h l] .own)]),cloHs [(100001,.arr 25 5 [eV h l] .own)]]):=kr
theorem p4_1 (W:World) (KK:KS) (D R B:List GDoc) (h:JH) (l:List JV) (z:Int):sF W {lp:=true,ol:=true,fz:=[(37,[100000])],tl:=[7,8,9,10,11,13,15,17,18]} 4 [eV h l,.sl 7 (docsG D) []] [] 100000 [ee,.lg,ee,cR (bA false) [(100001,.arr 25 5 [eV h l] .own)],ee,.lg,ee,cR (bA false) [],aE 5,bf,ee,.loopM [] [] (T40 h l D 0) (.exit 0) (E40 h l D),ee,.lg,ee,cR (.tup [sortA KK,iA 0]) [],ee,.lg,ee,cR (.tup [sL 2 (rksA KK),iA 0]) [],ee,.loopM [] [] (T42 KK D 0) (.exit 4) (E42 KK D),ee,.lg,ee,cR (sL 7 (docsG R)) [],ee,.loopM [] [(100000,7)] (T45 KK D R [] z) (.exit 10) (E45 KK D R B),ee,.loopM [] [] (Z45 KK D R B) .normal (Z45 KK D R B),ee,.lg,ee,cR (sL 7 (docsG R)) [],bf,bf,bf,ee,.lg,ee,cR (bA true) [],bf,bf,ee,.loopM [] [] (T46 KK D R 0) (.exit 12) E46,ee,.lg,ee,cR (bA true) [],ee] []=.ok (.ret (bA true) [],[ee],MZ W 9 [] [] (.ret (bA true) [])::cloHs []::LZ W [] 4 6 {t:=[(1,sL 7 (docsG D)),(7,(AV.agg [sL 2 (kysA KK)]).ip 0),(15,sL 7 (docsG R)),(19,iA 0)],h:=[]} (.exit 12) {t:=[],h:=[]}::MatchK [] [] [] {t:=[(1,sL 7 (docsG D)),(7,(AV.agg [sL 2 (kysA KK)]).ip 0),(15,sL 7 (docsG R)),(19,iA 0)],h:=[]} {t:=[(1,sL 7 (docsG D)),(7,(AV.agg [sL 2 (kysA KK)]).ip 0),(15,sL 7 (docsG R)),(19,iA 0)],h:=[]}::(d2 ((!decide ((↑(docsG R).length:Int)=(↑(docsG D).length:Int)))=false) (MZ W 17 [sL 7 (docsG R),sL 7 (docsG R)] [] (.ret (bA true) [])::cloHs []::(d3 ((!decide ((↑(docsG R).length:Int)=(↑(docsG D).length:Int)))=false) [MZ W 15 [(AV.agg [sL 2 (kysA KK)]).ip 0,sL 7 (docsG B)] [] (.ret (sL 7 (docsG R)) []),cloHs [],FrzTo [] {t:=[(1,sL 7 (docsG D)),(7,(AV.agg [sL 2 (kysA KK)]).ip 0),(15,sL 7 (docsG R)),(16,.gs 100000 0 B.length)],h:=[(100000,.arr 40 7 (docsG B) .own)]} [(100000,.arr 40 7 (docsG B) .own)] [] [] {t:=[(1,sL 7 (docsG D)),(7,(AV.agg [sL 2 (kysA KK)]).ip 0),(15,sL 7 (docsG R)),(16,sL 7 (docsG B))],h:=[]},LZ W [] 4 5 {t:=[(1,sL 7 (docsG D)),(7,(AV.agg [sL 2 (kysA KK)]).ip 0),(15,sL 7 (docsG R)),(16,.gs 100000 0 0),(17,iA z)],h:=[(100000,.arr 40 7 [] .own)]} (.exit 10) {t:=[(1,sL 7 (docsG D)),(7,(AV.agg [sL 2 (kysA KK)]).ip 0),(15,sL 7 (docsG R)),(16,.gs 100000 0 B.length)],h:=[(100000,.arr 40 7 (docsG B) .own)]},MatchK [] [] [(100000,7)] {t:=[(1,sL 7 (docsG D)),(7,(AV.agg [sL 2 (kysA KK)]).ip 0),(15,sL 7 (docsG R)),(16,.val (Value.slice none 0 0)),(17,iA (IntKind.i64.wrap ((↑(docsG D).length:Int) - 1)))],h:=[]} {t:=[(1,sL 7 (docsG D)),(7,(AV.agg [sL 2 (kysA KK)]).ip 0),(15,sL 7 (docsG R)),(16,.gs 100000 0 0),(17,iA z)],h:=[(100000,.arr 40 7 [] .own)]},MZ W 15 [(AV.agg [sL 2 (kysA KK)]).ip 0,sL 7 (docsG D)] [] (.ret (sL 7 (docsG R)) []),cloHs [],LZ W [] 4 2 {t:=[(1,sL 7 (docsG D)),(7,(AV.agg [sL 2 (kysA KK)]).ip 0),(11,iA 0)],h:=[]} (.exit 4) {t:=[(1,sL 7 (docsG D)),(7,(AV.agg [sL 2 (kysA KK)]).ip 0)],h:=[]},MatchK [] [] [] {t:=[(1,sL 7 (docsG D)),(7,(AV.agg [sL 2 (kysA KK)]).ip 0),(11,iA 0)],h:=[(100000,gB (eV h l))]} {t:=[(1,sL 7 (docsG D)),(7,(AV.agg [sL 2 (kysA KK)]).ip 0),(11,iA 0)],h:=[]},MZ W 11 [eV h l] [] (.ret (.tup [sL 2 (rksA KK),iA 0]) []),cloHs [],MZ W 10 [eV h l] [] (.ret (.tup [(AV.agg [sL 2 (kysA KK)]).ip 0,iA 0]) []),cloHs [],LZ W [] 4 0 {t:=[(1,sL 7 (docsG D)),(2,.gp 100000 0),(5,iA 0)],h:=[(100000,gB (eV h l))]} (.exit 0) {t:=[(1,sL 7 (docsG D)),(2,.gp 100000 0)],h:=[(100000,gB (eV h l))]},MatchK [] [] [] {t:=[(1,sL 7 (docsG D)),(2,.gp 100000 0),(5,iA 0)],h:=[(100000,gB (eV h l)),(100001,.arr 25 5 [eV h l] .own)]} {t:=[(1,sL 7 (docsG D)),(2,.gp 100000 0),(5,iA 0)],h:=[(100000,gB (eV h l))]},decide (30<(↑(docsG D).length:Int))=false,MZ W 8 [sL 7 (docsG D)] [] (.ret (bA false) []),cloHs [],MZ W 7 [.gs 100001 0 1] [(100001,.arr 25 5 [eV h l] .own)] (.ret (bA false) [(100001,.arr 25 5 [eV h l] .own)]),cloHs [(100001,.arr 25 5 [eV h l] .own)]])))):=kr
theorem b41_0 (W:World) (D:List GDoc) (x y:GDoc) (h:JH) (l:List JV) (i k:Nat):sQ W {lp:=true,ol:=true,tl:=[7,8,9,10,11,13,15,17,18]} 4 1 [] [1,2,4,5,6] (T41 h l D i k) [bt,aE 1,oS (docG x),aE 1,oS (docG y),bt,ee,.lg,ee,cR (bA true) [],ee]=.ok ((.ret,{t:=[(1,sL 7 (docsG D)),(2,.gp 100000 0),(4,bA true),(5,iA (i:Int)),(6,iA (k:Int))],h:=[(100000,gB (eV h l))]}),[ee],[MZ W 9 [] [] (.ret (bA true) []),cloHs [],decide (x.id=y.id)=true,(docsG D)[(k:Int).toNat]?=some (AV.agg [.str y.1,iA y.ver,iA y.h.kind,iA y.h.int,.str y.h.3,sL 1 (List.map AV.str y.h.names),sL 5 (encVs y.l)]),(docsG D)[(i:Int).toNat]?=some (AV.agg [.str x.1,iA x.ver,iA x.h.kind,iA x.h.int,.str x.h.3,sL 1 (List.map AV.str x.h.names),sL 5 (encVs x.l)]),decide ((k:Int)<(i:Int))=true]):=kr
theorem b41_1 (W:World) (D:List GDoc) (x y:GDoc) (h:JH) (l:List JV) (i k:Nat):sQ W {lp:=true,ol:=true,tl:=[7,8,9,10,11,13,15,17,18]} 4 1 [] [1,2,4,5,6] (T41 h l D i k) [bt,aE 1,oS (docG x),aE 1,oS (docG y),bf,ee]=.ok ((.normal,{t:=[(1,sL 7 (docsG D)),(2,.gp 100000 0),(5,iA (i:Int)),(6,iA (IntKind.i64.wrap ((k:Int)+1)))],h:=[(100000,gB (eV h l))]}),[ee],[decide (x.id=y.id)=false,(docsG D)[(k:Int).toNat]?=some (AV.agg [.str y.1,iA y.ver,iA y.h.kind,iA y.h.int,.str y.h.3,sL 1 (List.map AV.str y.h.names),sL 5 (encVs y.l)]),(docsG D)[(i:Int).toNat]?=some (AV.agg [.str x.1,iA x.ver,iA x.h.kind,iA x.h.int,.str x.h.3,sL 1 (List.map AV.str x.h.names),sL 5 (encVs x.l)]),decide ((k:Int)<(i:Int))=true]):=kr
theorem b41_2 (W:World) (D:List GDoc) (h:JH) (l:List JV) (i k:Nat):sQ W {lp:=true,ol:=true,tl:=[7,8,9,10,11,13,15,17,18]} 4 1 [] [1,2,4,5,6] (T41 h l D i k) [bf,ee]=.ok ((.exit 2,{t:=[(1,sL 7 (docsG D)),(2,.gp 100000 0),(5,iA (i:Int)),(6,iA (k:Int))],h:=[(100000,gB (eV h l))]}),[ee],[decide ((k:Int)<(i:Int))=false]):=kr
theorem b40n_0 (W:World) (D:List GDoc) (h:JH) (l:List JV) (i:Nat):sQ W {lp:=true,ol:=true,tl:=[7,8,9,10,11,13,15,17,18]} 4 0 [] [1,2,4,5] (T40 h l D i) [bt,ee,.loopM [] [] (T41 h l D i 0) (.exit 2) (T40 h l D i),ee]=.ok ((.normal,{t:=[(1,sL 7 (docsG D)),(2,.gp 100000 0),(5,iA (IntKind.i64.wrap ((i:Int)+1)))],h:=[(100000,gB (eV h l))]}),[ee],[LZ W [] 4 1 (T41 h l D i 0) (.exit 2) (T40 h l D i),MatchK [] [] [] {t:=[(1,sL 7 (docsG D)),(2,.gp 100000 0),(5,iA (i:Int)),(6,iA 0)],h:=[(100000,gB (eV h l))]} (T41 h l D i 0),decide ((i:Int)<(↑(docsG D).length:Int))=true]):=kr
theorem b40n_1 (W:World) (D:List GDoc) (h:JH) (l:List JV) (i:Nat):sQ W {lp:=true,ol:=true,tl:=[7,8,9,10,11,13,15,17,18]} 4 0 [] [1,2,4,5] (T40 h l D i) [bf,ee]=.ok ((.exit 0,{t:=[(1,sL 7 (docsG D)),(2,.gp 100000 0),(5,iA (i:Int))],h:=[(100000,gB (eV h l))]}),[ee],[decide ((i:Int)<(↑(docsG D).length:Int))=false]):=kr
theorem b40r_0 (W:World) (D:List GDoc) (h:JH) (l:List JV) (i:Nat):sQ W {lp:=true,ol:=true,tl:=[7,8,9,10,11,13,15,17,18]} 4 0 [] [1,2,4,5] (T40 h l D i) [bt,ee,.loopM [] [] (T41 h l D i 0) .ret (R4b true),ee]=.ok ((.ret,{t:=[(4,bA true)],h:=[]}),[ee],[LZ W [] 4 1 (T41 h l D i 0) .ret (R4b true),MatchK [] [] [] {t:=[(1,sL 7 (docsG D)),(2,.gp 100000 0),(5,iA (i:Int)),(6,iA 0)],h:=[(100000,gB (eV h l))]} (T41 h l D i 0),decide ((i:Int)<(↑(docsG D).length:Int))=true]):=kr
theorem b44_1 (W:World) (KK:KS) (D:List GDoc) (x y u:GDoc) (h:JH) (l:List JV) (i k j:Nat) (z z2 z3:Int):sQ W {lp:=true,ol:=true,tl:=[7,8,9,10,11,13,15,17,18]} 4 4 [] [1,4,7,11,12,13,14] (T44 KK D i k j z) [bt,bt,bt,bt,bt,aE 1,oS (docG x),bt,bt,bt,bt,aE 1,oS (docG y),bt,bt,ee,.lg,ee,cR (iA z2) [],bt,bt,bt,bt,bt,bt,aE 1,oS (docG u),bt,bt,bt,bt,aE 1,oS (docG y),bt,bt,ee,.lg,ee,cR (iA z3) [],bt,bt,bf,ee]=.ok ((.normal,{t:=[(1,sL 7 (docsG D)),(7,(AV.agg [sL 2 (kysA KK)]).ip 0),(11,iA (i:Int)),(12,iA (k:Int)),(13,iA z),(14,iA (IntKind.i64.wrap ((j:Int)+1)))],h:=[]}),[ee],(decide (0<=z3)=false)::(d2 (decide (z2<0)=true) (MZ W 13 [(AV.agg [sL 2 (kysA KK)]).ip 0,.agg [.str u.1,iA u.ver,iA u.h.kind,iA u.h.int,.str u.h.3,sL 1 (List.map AV.str u.h.names),sL 5 (encVs u.l)],.agg [.str y.1,iA y.ver,iA y.h.kind,iA y.h.int,.str y.h.3,sL 1 (List.map AV.str y.h.names),sL 5 (encVs y.l)]] [] (.ret (iA z3) [])::cloHs []::(d2 (decide (z2<0)=true) (((docsG D)[(j:Int).toNat]?=some (AV.agg [.str y.1,iA y.ver,iA y.h.kind,iA y.h.int,.str y.h.3,sL 1 (List.map AV.str y.h.names),sL 5 (encVs y.l)]))::(d4 (decide (z2<0)=true) (((docsG D)[(i:Int).toNat]?=some (AV.agg [.str u.1,iA u.ver,iA u.h.kind,iA u.h.int,.str u.h.3,sL 1 (List.map AV.str u.h.names),sL 5 (encVs u.l)]))::(d4 (decide (z2<0)=true) (d2 (decide (z<0)=true) (MZ W 13 [(AV.agg [sL 2 (kysA KK)]).ip 0,.agg [.str x.1,iA x.ver,iA x.h.kind,iA x.h.int,.str x.h.3,sL 1 (List.map AV.str x.h.names),sL 5 (encVs x.l)],.agg [.str y.1,iA y.ver,iA y.h.kind,iA y.h.int,.str y.h.3,sL 1 (List.map AV.str y.h.names),sL 5 (encVs y.l)]] [] (.ret (iA z2) [])::cloHs []::(d2 (decide (z<0)=true) (((docsG D)[(j:Int).toNat]?=some (AV.agg [.str y.1,iA y.ver,iA y.h.kind,iA y.h.int,.str y.h.3,sL 1 (List.map AV.str y.h.names),sL 5 (encVs y.l)]))::(d4 (decide (z<0)=true) (((docsG D)[(k:Int).toNat]?=some (AV.agg [.str x.1,iA x.ver,iA x.h.kind,iA x.h.int,.str x.h.3,sL 1 (List.map AV.str x.h.names),sL 5 (encVs x.l)]))::(d4 (decide (z<0)=true) [decide ((j:Int)<(↑(docsG D).length:Int))=true]))))))))))))))):=kr
theorem b44_2 (W:World) (KK:KS) (D:List GDoc) (x y:GDoc) (h:JH) (l:List JV) (i k j:Nat) (z z2:Int):sQ W {lp:=true,ol:=true,tl:=[7,8,9,10,11,13,15,17,18]} 4 4 [] [1,4,7,11,12,13,14] (T44 KK D i k j z) [bt,bt,bt,bt,bt,aE 1,oS (docG x),bt,bt,bt,bt,aE 1,oS (docG y),bt,bt,ee,.lg,ee,cR (iA z2) [],bt,bt,bf,bf,bf,bf,bf,bf,bf,bf,bf,bf,bf,bf,ee]=.ok ((.normal,{t:=[(1,sL 7 (docsG D)),(7,(AV.agg [sL 2 (kysA KK)]).ip 0),(11,iA (i:Int)),(12,iA (k:Int)),(13,iA z),(14,iA (IntKind.i64.wrap ((j:Int)+1)))],h:=[]}),[aE 9999999],d6 (decide (z2<0)=false) (d6 (decide (z2<0)=false) (d2 (decide (z<0)=true) (MZ W 13 [(AV.agg [sL 2 (kysA KK)]).ip 0,.agg [.str x.1,iA x.ver,iA x.h.kind,iA x.h.int,.str x.h.3,sL 1 (List.map AV.str x.h.names),sL 5 (encVs x.l)],.agg [.str y.1,iA y.ver,iA y.h.kind,iA y.h.int,.str y.h.3,sL 1 (List.map AV.str y.h.names),sL 5 (encVs y.l)]] [] (.ret (iA z2) [])::cloHs []::(d2 (decide (z<0)=true) (((docsG D)[(j:Int).toNat]?=some (AV.agg [.str y.1,iA y.ver,iA y.h.kind,iA y.h.int,.str y.h.3,sL 1 (List.map AV.str y.h.names),sL 5 (encVs y.l)]))::(d4 (decide (z<0)=true) (((docsG D)[(k:Int).toNat]?=some (AV.agg [.str x.1,iA x.ver,iA x.h.kind,iA x.h.int,.str x.h.3,sL 1 (List.map AV.str x.h.names),sL 5 (encVs x.l)]))::(d4 (decide (z<0)=true) [decide ((j:Int)<(↑(docsG D).length:Int))=true]))))))))):=kr
theorem b44_3 (W:World) (KK:KS) (D:List GDoc) (i k j:Nat) (z:Int):sQ W {lp:=true,ol:=true,tl:=[7,8,9,10,11,13,15,17,18]} 4 4 [] [1,4,7,11,12,13,14] (T44 KK D i k j z) [bt,bf,bf,bf,bf,bf,bf,bf,bf,bf,bf,bf,bf,ee]=.ok ((.normal,{t:=[(1,sL 7 (docsG D)),(7,(AV.agg [sL 2 (kysA KK)]).ip 0),(11,iA (i:Int)),(12,iA (k:Int)),(13,iA z),(14,iA (IntKind.i64.wrap ((j:Int)+1)))],h:=[]}),[aE 9999987],d6 (decide (z<0)=false) (d6 (decide (z<0)=false) [decide ((j:Int)<(↑(docsG D).length:Int))=true])):=kr
theorem b44_4 (W:World) (KK:KS) (D:List GDoc) (i k j:Nat) (z:Int):sQ W {lp:=true,ol:=true,tl:=[7,8,9,10,11,13,15,17,18]} 4 4 [] [1,4,7,11,12,13,14] (T44 KK D i k j z) [bf,ee]=.ok ((.exit 8,{t:=[(1,sL 7 (docsG D)),(7,(AV.agg [sL 2 (kysA KK)]).ip 0),(11,iA (i:Int)),(12,iA (k:Int)),(13,iA z),(14,iA (j:Int))],h:=[]}),[ee],[decide ((j:Int)<(↑(docsG D).length:Int))=false]):=kr
theorem b43_4 (W:World) (KK:KS) (D:List GDoc) (x y:GDoc) (h:JH) (l:List JV) (i k:Nat) (z z2:Int):sQ W {lp:=true,ol:=true,tl:=[7,8,9,10,11,13,15,17,18]} 4 3 [] [1,4,7,11,12] (T43 KK D i k) [bt,aE 1,oS (docG x),aE 1,oS (docG y),ee,.lg,ee,cR (iA z) [],aE 1,oS (docG y),aE 1,oS (docG x),ee,.lg,ee,cR (iA z2) [],bf,bf,bf,bf,bf,bf,bf,bf,bf,bf,bf,bf,bf,bf,ee,.loopM [] [] (T44 KK D i k 0 z) (.exit 8) (T43 KK D i k),ee]=.ok ((.normal,{t:=[(1,sL 7 (docsG D)),(7,(AV.agg [sL 2 (kysA KK)]).ip 0),(11,iA (i:Int)),(12,iA (IntKind.i64.wrap ((k:Int)+1)))],h:=[]}),[ee],LZ W [] 4 4 (T44 KK D i k 0 z) (.exit 8) (T43 KK D i k)::MatchK [] [] [] {t:=[(1,sL 7 (docsG D)),(7,(AV.agg [sL 2 (kysA KK)]).ip 0),(11,iA (i:Int)),(12,iA (k:Int)),(13,iA z),(14,iA 0)],h:=[]} (T44 KK D i k 0 z)::(decide (1<z)=false)::(d3 (decide (z < -1)=false) (d3 ((!decide (z=0) == decide ((i:Int)=(k:Int)))=false) (((!decide (z=IntKind.i64.wrap (0 - z2)))=false)::(d6 ((!decide (z=IntKind.i64.wrap (0 - z2)))=false) [MZ W 13 [(AV.agg [sL 2 (kysA KK)]).ip 0,.agg [.str y.1,iA y.ver,iA y.h.kind,iA y.h.int,.str y.h.3,sL 1 (List.map AV.str y.h.names),sL 5 (encVs y.l)],.agg [.str x.1,iA x.ver,iA x.h.kind,iA x.h.int,.str x.h.3,sL 1 (List.map AV.str x.h.names),sL 5 (encVs x.l)]] [] (.ret (iA z2) []),cloHs [],(docsG D)[(i:Int).toNat]?=some (AV.agg [.str x.1,iA x.ver,iA x.h.kind,iA x.h.int,.str x.h.3,sL 1 (List.map AV.str x.h.names),sL 5 (encVs x.l)]),(docsG D)[(k:Int).toNat]?=some (AV.agg [.str y.1,iA y.ver,iA y.h.kind,iA y.h.int,.str y.h.3,sL 1 (List.map AV.str y.h.names),sL 5 (encVs y.l)]),MZ W 13 [(AV.agg [sL 2 (kysA KK)]).ip 0,.agg [.str x.1,iA x.ver,iA x.h.kind,iA x.h.int,.str x.h.3,sL 1 (List.map AV.str x.h.names),sL 5 (encVs x.l)],.agg [.str y.1,iA y.ver,iA y.h.kind,iA y.h.int,.str y.h.3,sL 1 (List.map AV.str y.h.names),sL 5 (encVs y.l)]] [] (.ret (iA z) []),cloHs [],(docsG D)[(k:Int).toNat]?=some (AV.agg [.str y.1,iA y.ver,iA y.h.kind,iA y.h.int,.str y.h.3,sL 1 (List.map AV.str y.h.names),sL 5 (encVs y.l)]),(docsG D)[(i:Int).toNat]?=some (AV.agg [.str x.1,iA x.ver,iA x.h.kind,iA x.h.int,.str x.h.3,sL 1 (List.map AV.str x.h.names),sL 5 (encVs x.l)]),decide ((k:Int)<(↑(docsG D).length:Int))=true]))))):=kr
theorem b43_5 (W:World) (KK:KS) (D:List GDoc) (i k:Nat):sQ W {lp:=true,ol:=true,tl:=[7,8,9,10,11,13,15,17,18]} 4 3 [] [1,4,7,11,12] (T43 KK D i k) [bf,ee]=.ok ((.exit 6,{t:=[(1,sL 7 (docsG D)),(7,(AV.agg [sL 2 (kysA KK)]).ip 0),(11,iA (i:Int)),(12,iA (k:Int))],h:=[]}),[ee],[decide ((k:Int)<(↑(docsG D).length:Int))=false]):=kr
theorem b42_0 (W:World) (KK:KS) (D:List GDoc) (i:Nat):sQ W {lp:=true,ol:=true,tl:=[7,8,9,10,11,13,15,17,18]} 4 2 [] [1,4,7,11] (T42 KK D i) [bt,ee,.loopM [] [] (T43 KK D i 0) (.exit 6) (T42 KK D i),ee]=.ok ((.normal,{t:=[(1,sL 7 (docsG D)),(7,(AV.agg [sL 2 (kysA KK)]).ip 0),(11,iA (IntKind.i64.wrap ((i:Int)+1)))],h:=[]}),[ee],[LZ W [] 4 3 (T43 KK D i 0) (.exit 6) (T42 KK D i),MatchK [] [] [] {t:=[(1,sL 7 (docsG D)),(7,(AV.agg [sL 2 (kysA KK)]).ip 0),(11,iA (i:Int)),(12,iA 0)],h:=[]} (T43 KK D i 0),decide ((i:Int)<(↑(docsG D).length:Int))=true]):=kr
theorem b42_1 (W:World) (KK:KS) (D:List GDoc) (i:Nat):sQ W {lp:=true,ol:=true,tl:=[7,8,9,10,11,13,15,17,18]} 4 2 [] [1,4,7,11] (T42 KK D i) [bf,ee]=.ok ((.exit 4,{t:=[(1,sL 7 (docsG D)),(7,(AV.agg [sL 2 (kysA KK)]).ip 0),(11,iA (i:Int))],h:=[]}),[ee],[decide ((i:Int)<(↑(docsG D).length:Int))=false]):=kr
theorem b45_0 (W:World) (KK:KS) (D R B:List GDoc) (x:GDoc) (h:JH) (l:List JV) (z:Int):sQ W {lp:=true,ol:=true,tl:=[7,8,9,10,11,13,15,17,18]} 4 5 [] [1,4,7,15,16,17] (T45 KK D R B z) [bt,.lg,oS (docG x),aE 1,.lg,.lg,ee]=.ok ((.normal,{t:=[(1,sL 7 (docsG D)),(7,(AV.agg [sL 2 (kysA KK)]).ip 0),(15,sL 7 (docsG R)),(16,.gs 100002 0 (B.length+[AV.agg [.str x.1,iA x.ver,iA x.h.kind,iA x.h.int,.str x.h.3,sL 1 (List.map AV.str x.h.names),sL 5 (encVs x.l)]].length)),(17,iA (IntKind.i64.wrap (z - 1)))],h:=[(100000,.dead),(100001,.arr 40 7 [.agg [.str x.1,iA x.ver,iA x.h.kind,iA x.h.int,.str x.h.3,sL 1 (List.map AV.str x.h.names),sL 5 (encVs x.l)]] .own),(100002,.arr 40 7 (List.take B.length (docsG B)++[AV.agg [.str x.1,iA x.ver,iA x.h.kind,iA x.h.int,.str x.h.3,sL 1 (List.map AV.str x.h.names),sL 5 (encVs x.l)]]) .own)]}),[ee],[(B.length+[AV.agg [.str x.1,iA x.ver,iA x.h.kind,iA x.h.int,.str x.h.3,sL 1 (List.map AV.str x.h.names),sL 5 (encVs x.l)]].length) * 104<=140737488355328,(St.own=St.own\/St.own=St.shr/\B.length=(docsG B).length)/\B.length<=(docsG B).length,(docsG D)[z.toNat]?=some (AV.agg [.str x.1,iA x.ver,iA x.h.kind,iA x.h.int,.str x.h.3,sL 1 (List.map AV.str x.h.names),sL 5 (encVs x.l)]),0<=z,decide (0<=z)=true]):=kr
theorem b45_1 (W:World) (KK:KS) (D R B:List GDoc) (z:Int):sQ W {lp:=true,ol:=true,tl:=[7,8,9,10,11,13,15,17,18]} 4 5 [] [1,4,7,15,16,17] (T45 KK D R B z) [bf,ee]=.ok ((.exit 10,{t:=[(1,sL 7 (docsG D)),(7,(AV.agg [sL 2 (kysA KK)]).ip 0),(15,sL 7 (docsG R)),(16,.gs 100000 0 B.length),(17,iA z)],h:=[(100000,.arr 40 7 (docsG B) .own)]}),[ee],[decide (0<=z)=false]):=kr
theorem b46_2 (W:World) (KK:KS) (D R:List GDoc) (x y u:GDoc) (h:JH) (l:List JV) (i:Nat) (z z2:Int):sQ W {lp:=true,ol:=true,tl:=[7,8,9,10,11,13,15,17,18]} 4 6 [] [1,4,7,15,19] (T46 KK D R i) [bt,aE 1,oS (docG x),ee,.lg,ee,cR (iA z) [],aE 1,oS (docG x),ee,.lg,ee,cR (iA z) [],bf,bf,bf,bt,bt,bt,bt,bt,.lg,oS (docG y),bt,bt,bt,bt,aE 1,oS (docG u),bt,bt,ee,.lg,ee,cR (iA z2) [],bt,bf,bt,bf,bf,ee]=.ok ((.normal,{t:=[(1,sL 7 (docsG D)),(7,(AV.agg [sL 2 (kysA KK)]).ip 0),(15,sL 7 (docsG R)),(19,iA (IntKind.i64.wrap ((i:Int)+1)))],h:=[]}),[ee],(decide (0<=z2)=false)::((!decide (z=z))=false)::(decide (0<(i:Int))=true)::((!decide (z=z))=false)::(decide (0<(i:Int))=true)::MZ W 13 [(AV.agg [sL 2 (kysA KK)]).ip 0,.agg [.str y.1,iA y.ver,iA y.h.kind,iA y.h.int,.str y.h.3,sL 1 (List.map AV.str y.h.names),sL 5 (encVs y.l)],.agg [.str u.1,iA u.ver,iA u.h.kind,iA u.h.int,.str u.h.3,sL 1 (List.map AV.str u.h.names),sL 5 (encVs u.l)]] [] (.ret (iA z2) [])::cloHs []::(d2 (decide (0<(i:Int))=true) (((docsG R)[(i:Int).toNat]?=some (AV.agg [.str u.1,iA u.ver,iA u.h.kind,iA u.h.int,.str u.h.3,sL 1 (List.map AV.str u.h.names),sL 5 (encVs u.l)]))::(d4 (decide (0<(i:Int))=true) (((docsG R)[(IntKind.i64.wrap ((i:Int) - 1)).toNat]?=some (AV.agg [.str y.1,iA y.ver,iA y.h.kind,iA y.h.int,.str y.h.3,sL 1 (List.map AV.str y.h.names),sL 5 (encVs y.l)]))::(0<=IntKind.i64.wrap ((i:Int) - 1))::(decide (0<(i:Int))=true)::(d4 (decide (0<(i:Int))=true) (d3 ((!decide (z=z))=false) [MZ W 18 [sL 7 (docsG D),.agg [.str x.1,iA x.ver,iA x.h.kind,iA x.h.int,.str x.h.3,sL 1 (List.map AV.str x.h.names),sL 5 (encVs x.l)]] [] (.ret (iA z) []),cloHs [],(docsG D)[(i:Int).toNat]?=some (AV.agg [.str x.1,iA x.ver,iA x.h.kind,iA x.h.int,.str x.h.3,sL 1 (List.map AV.str x.h.names),sL 5 (encVs x.l)]),MZ W 18 [sL 7 (docsG R),.agg [.str x.1,iA x.ver,iA x.h.kind,iA x.h.int,.str x.h.3,sL 1 (List.map AV.str x.h.names),sL 5 (encVs x.l)]] [] (.ret (iA z) []),cloHs [],(docsG D)[(i:Int).toNat]?=some (AV.agg [.str x.1,iA x.ver,iA x.h.kind,iA x.h.int,.str x.h.3,sL 1 (List.map AV.str x.h.names),sL 5 (encVs x.l)]),decide ((i:Int)<(↑(docsG D).length:Int))=true]))))))):=kr
theorem b46_3 (W:World) (KK:KS) (D R:List GDoc) (x:GDoc) (h:JH) (l:List JV) (i:Nat) (z:Int):sQ W {lp:=true,ol:=true,tl:=[7,8,9,10,11,13,15,17,18]} 4 6 [] [1,4,7,15,19] (T46 KK D R i) [bt,aE 1,oS (docG x),ee,.lg,ee,cR (iA z) [],aE 1,oS (docG x),ee,.lg,ee,cR (iA z) [],bf,bf,bf,bf,bf,bf,bf,bf,bf,bf,bf,bf,bf,bf,bf,bf,bf,bf,ee]=.ok ((.normal,{t:=[(1,sL 7 (docsG D)),(7,(AV.agg [sL 2 (kysA KK)]).ip 0),(15,sL 7 (docsG R)),(19,iA (IntKind.i64.wrap ((i:Int)+1)))],h:=[]}),[aE 9999999],((!decide (z=z))=false)::(decide (0<(i:Int))=false)::((!decide (z=z))=false)::(d6 (decide (0<(i:Int))=false) (d6 (decide (0<(i:Int))=false) (d3 ((!decide (z=z))=false) [MZ W 18 [sL 7 (docsG D),.agg [.str x.1,iA x.ver,iA x.h.kind,iA x.h.int,.str x.h.3,sL 1 (List.map AV.str x.h.names),sL 5 (encVs x.l)]] [] (.ret (iA z) []),cloHs [],(docsG D)[(i:Int).toNat]?=some (AV.agg [.str x.1,iA x.ver,iA x.h.kind,iA x.h.int,.str x.h.3,sL 1 (List.map AV.str x.h.names),sL 5 (encVs x.l)]),MZ W 18 [sL 7 (docsG R),.agg [.str x.1,iA x.ver,iA x.h.kind,iA x.h.int,.str x.h.3,sL 1 (List.map AV.str x.h.names),sL 5 (encVs x.l)]] [] (.ret (iA z) []),cloHs [],(docsG D)[(i:Int).toNat]?=some (AV.agg [.str x.1,iA x.ver,iA x.h.kind,iA x.h.int,.str x.h.3,sL 1 (List.map AV.str x.h.names),sL 5 (encVs x.l)]),decide ((i:Int)<(↑(docsG D).length:Int))=true])))):=kr
theorem b46_4 (W:World) (KK:KS) (D R:List GDoc) (i:Nat):sQ W {lp:=true,ol:=true,tl:=[7,8,9,10,11,13,15,17,18]} 4 6 [] [1,4,7,15,19] (T46 KK D R i) [bf,ee]=.ok ((.exit 12,{t:=[(1,sL 7 (docsG D)),(7,(AV.agg [sL 2 (kysA KK)]).ip 0),(15,sL 7 (docsG R)),(19,iA (i:Int))],h:=[]}),[ee],[decide ((i:Int)<(↑(docsG D).length:Int))=false]):=kr
theorem b18_0 (W:World) (A:List GDoc) (x y:GDoc) (h:JH) (l:List JV) (i n:Nat) (b:Bool):sQ W {lp:=true,ol:=true,tl:=[41]} 18 0 [] [0,3,4,5,6] (S18 A x n i) [bt,aE 1,oS (docG y),ee,.lg,ee,cR (bA b) [],bt,ee]=.ok ((.normal,{t:=[(0,sL 7 (docsG A)),(3,.gp 100000 0),(5,iA (IntKind.i64.wrap ((n:Int)+1))),(6,iA (IntKind.i64.wrap ((i:Int)+1)))],h:=[(100000,gB (.agg [.str x.1,iA x.ver,iA x.h.kind,iA x.h.int,.str x.h.3,sL 1 (List.map AV.str x.h.names),sL 5 (encVs x.l)]))]}),[ee],[b=true,MZ W 41 [.agg [.str y.1,iA y.ver,iA y.h.kind,iA y.h.int,.str y.h.3,sL 1 (List.map AV.str y.h.names),sL 5 (encVs y.l)],.agg [.str x.1,iA x.ver,iA x.h.kind,iA x.h.int,.str x.h.3,sL 1 (List.map AV.str x.h.names),sL 5 (encVs x.l)]] [] (.ret (bA b) []),cloHs [],(docsG A)[(i:Int).toNat]?=some (AV.agg [.str y.1,iA y.ver,iA y.h.kind,iA y.h.int,.str y.h.3,sL 1 (List.map AV.str y.h.names),sL 5 (encVs y.l)]),decide ((i:Int)<(↑(docsG A).length:Int))=true]):=kr
theorem b18_1 (W:World) (A:List GDoc) (x y:GDoc) (h:JH) (l:List JV) (i n:Nat) (b:Bool):sQ W {lp:=true,ol:=true,tl:=[41]} 18 0 [] [0,3,4,5,6] (S18 A x n i) [bt,aE 1,oS (docG y),ee,.lg,ee,cR (bA b) [],bf,ee]=.ok ((.normal,{t:=[(0,sL 7 (docsG A)),(3,.gp 100000 0),(5,iA (n:Int)),(6,iA (IntKind.i64.wrap ((i:Int)+1)))],h:=[(100000,gB (.agg [.str x.1,iA x.ver,iA x.h.kind,iA x.h.int,.str x.h.3,sL 1 (List.map AV.str x.h.names),sL 5 (encVs x.l)]))]}),[ee],[b=false,MZ W 41 [.agg [.str y.1,iA y.ver,iA y.h.kind,iA y.h.int,.str y.h.3,sL 1 (List.map AV.str y.h.names),sL 5 (encVs y.l)],.agg [.str x.1,iA x.ver,iA x.h.kind,iA x.h.int,.str x.h.3,sL 1 (List.map AV.str x.h.names),sL 5 (encVs x.l)]] [] (.ret (bA b) []),cloHs [],(docsG A)[(i:Int).toNat]?=some (AV.agg [.str y.1,iA y.ver,iA y.h.kind,iA y.h.int,.str y.h.3,sL 1 (List.map AV.str y.h.names),sL 5 (encVs y.l)]),decide ((i:Int)<(↑(docsG A).length:Int))=true]):=kr
theorem b18_2 (W:World) (A:List GDoc) (x:GDoc) (h:JH) (l:List JV) (i n:Nat):sQ W {lp:=true,ol:=true,tl:=[41]} 18 0 [] [0,3,4,5,6] (S18 A x n i) [bf,ee]=.ok ((.exit 0,{t:=[(0,sL 7 (docsG A)),(3,.gp 100000 0),(5,iA (n:Int)),(6,iA (i:Int))],h:=[(100000,gB (.agg [.str x.1,iA x.ver,iA x.h.kind,iA x.h.int,.str x.h.3,sL 1 (List.map AV.str x.h.names),sL 5 (encVs x.l)]))]}),[ee],[decide ((i:Int)<(↑(docsG A).length:Int))=false]):=kr
theorem zlM {φ ph x y} (h:LeP φ ph x y:=by first|exact .eq rfl rfl|exact .nil rfl|exact .nilS|exact .same rfl (encV_clo _)|exact .same rfl (by simp only [sortA,AV.clo,cloL,kys_clo,rks_clo,gdocs_clo,Bool.and_self])|exact .same rfl rfl|exact .same (by rw [hws];rfl) rfl|exact .same (by rw [hws2];rfl) rfl|exact .eq (congrArg (AV.gs _ 0) hgl) rfl):LeP φ ph x y:=h
theorem ztM {p:Prop} (h:p:=by and_intros<;>first|exact trivial|exact zlM):p:=h
theorem zhM {p:Prop} (h:p:=by and_intros<;>first|exact trivial|exact gOK_ph' rfl (by decide) rfl|exact gOK_eq rfl rfl rfl|exact gOK_arr rfl rfl rfl (gdocs_clo _)|exact gOK_arr rfl rfl hset (gdocs_clo _)|(refine gOK_box rfl rfl rfl ?_;exact zlM)):p:=h
theorem zvM {p:Prop} (h:p:=by and_intros<;>first|rfl|exact trivial|exact allN_cloL (gdocs_clo _)|exact allN_clo (encV_clo _)|exact allN_clo (by simp only [sortA,AV.clo,cloL,kys_clo,rks_clo,gdocs_clo,Bool.and_self]<;>rfl)):p:=h
theorem Ij_z1 {kp f ph σ σ'} (h:MatchK kp f ph σ σ':=by exact ⟨by rfl,(by simp only [T40,T41,E40,R4b,T42,E42,T43,T44,T45,E45,Z45,T46,E46,S18,E18,tOK,List.map_cons,List.map_nil,and_true]<;>exact ztM),(by simp only [T40,T41,E40,R4b,T42,E42,T43,T44,T45,E45,Z45,T46,E46,S18,E18,hOK,List.map_cons,List.map_nil,and_true]<;>exact zhM),(by simp only [T40,T41,E40,R4b,T42,E42,T43,T44,T45,E45,Z45,T46,E46,S18,E18,liveT,List.map_cons,List.map_nil,and_true]<;>exact zvM),(by simp only [T40,T41,E40,R4b,T42,E42,T43,T44,T45,E45,Z45,T46,E46,S18,E18,liveH,List.map_cons,List.map_nil,and_true]<;>exact zvM)⟩):MatchK kp f ph σ σ':=h
theorem Ij_z2 {cs} (h:Holds cs:=by simp only [Holds,cloHs,and_true]<;>and_intros<;>first|assumption|exact gdocs_clo _|exact encV_clo _|exact decide_eq_true (by omega)|exact decide_eq_false (by omega)|omega|exact trivial|exact .inl trivial|(simp only [cloL,encV_clo,Bool.and_self];done)|(constructor<;>omega)|exact ⟨.inl trivial,by omega⟩|exact hfz|exact Ij_z1):Holds cs:=h
theorem call4:callable Tryz.prog 4=true:=kr
theorem call18:callable Tryz.prog 18=true:=kr
abbrev j0h:JH:=⟨0,0,[],[]⟩
theorem docG_clo (x:GDoc):(docG x).clo=true:=by
 have:=gdocs_clo [x]
 simp only [docsG,List.map_cons,List.map_nil,cloL,Bool.and_true] at this
 exact this
noncomputable def sameB (y x:GDoc):Bool:=decide (y.id=x.id) && (decide (y.ver=x.ver) && eqV (.mk y.h y.l) (.mk x.h x.l))
section
variable (W:World)
theorem same41b (y x:GDoc) (hy:okV y.doc.v):Pure Tryz.prog W 41 [docG y,docG x] (bA (sameB y x)):=by
 have h1:=mut_of_pure (by simp [cloL,encV_clo]) (equal67 W _ y.doc.v x.doc.v (Nat.lt_succ_self _) hy)
 unfold sameB
 change Pure Tryz.prog W 41 [docA y.doc,docA x.doc] (bA (decide (y.doc.id=x.doc.id) && (decide (y.doc.ver=x.doc.ver) && eqV y.doc.v x.doc.v)))
 generalize y.doc=y at *
 generalize x.doc=x at *
 generalize eqV y.v x.v=b at *
 cases c1:decide (y.id=x.id) with
 | false=>exact pure_of_mut rfl (mut_of_sfun mixedz call41 rfl (p41_2 W y x) (by clear hy;exact Sn_z2))
 | true =>
  cases c2:decide (y.ver=x.ver) with
  | false=>exact pure_of_mut rfl (mut_of_sfun mixedz call41 rfl (p41_1 W y x) (by clear hy;exact Sn_z2))
  | true=>exact pure_of_mut rfl (mut_of_sfun mixedz call41 rfl (p41_0 W b y x) (by clear hy;exact Sn_z2))
theorem loop18 (A:List GDoc) (x:GDoc) (hA:∀ y ∈ A,okV y.doc.v) (hl:A.length<=2 ^ 40):∀ (q i n:Nat),A.length - i=q->i<=A.length->n<=i->LoopC Tryz.prog W [] (nslots Tryz.prog 18) (loopOf Tryz.prog 18 0) (S18 A x n i) (.exit 0) (E18 (n+(A.drop i).countP fun y=>sameB y x)):=by
 have hdl:=gdocs_len A
 intro q
 induction q with
 | zero =>
  intro i n hq hi hn
  rw [List.drop_eq_nil_of_le (by omega)]
  exact loop_last (by simp) (body_of_sbodyK mixedz (b18_2 W A x j0h [] i n) (by clear hA;exact Ij_z2) [] [] (by clear hA;exact Ij_z1))
 | succ q ih =>
  intro i n hq hi hn
  obtain ⟨y,hy⟩:=getOf (l:=A) (i:=i) (by omega)
  have hws:IntKind.i64.wrap ((i:Int)+1)=((i+1:Nat):Int):=wrap_succ (by omega)
  have hws2:IntKind.i64.wrap ((n:Int)+1)=((n+1:Nat):Int):=wrap_succ (by omega)
  have hg:=gdocs_at hy
  rw [Nat.zero_add] at hg
  have h41:=mut_of_pure (by simp only [cloL,docG_clo,Bool.and_self]) (same41b W y x (hA y (List.mem_of_getElem? hy)))
  rw [drop_cons hy,List.countP_cons]
  clear hA
  generalize sameB y x=b at *
  cases b with
  | true =>
   have nx:=ih (i+1) (n+1) (by omega) (by omega) (by omega)
   rw [if_pos rfl,show n+((A.drop (i+1)).countP (fun y=>sameB y x)+1)=n+1+(A.drop (i+1)).countP (fun y=>sameB y x) by omega]
   exact loop_next (body_of_sbodyK mixedz (b18_0 W A x y j0h [] i n true) (by clear nx ih;exact Ij_z2) [] [] (σ3:=S18 A x (n+1) (i+1)) (by clear nx ih;exact Ij_z1)) nx
  | false =>
   have nx:=ih (i+1) n (by omega) (by omega) (by omega)
   rw [if_neg (by simp),Nat.add_zero]
   exact loop_next (body_of_sbodyK mixedz (b18_1 W A x y j0h [] i n false) (by clear nx ih;exact Ij_z2) [] [] (σ3:=S18 A x n (i+1)) (by clear nx ih;exact Ij_z1)) nx
theorem count18 (A:List GDoc) (x:GDoc) (hA:∀ y ∈ A,okV y.doc.v) (hl:A.length<=2 ^ 40):Pure Tryz.prog W 18 [.sl 7 (docsG A) [],docG x] (iA (A.countP fun y=>sameB y x:Nat)):=by
 have h:=loop18 W A x hA hl A.length 0 0 rfl (by omega) (by omega)
 rw [List.drop_zero,Nat.zero_add] at h
 clear hA
 generalize (A.countP fun y=>sameB y x)=n at *
 exact pure_of_mut rfl (mut_of_sfun mixedz call18 rfl (p18_0 W A x j0h [] n) Ij_z2)
theorem loop41 (h:JH) (l:List JV) (D:List GDoc) (hl:D.length<=2 ^ 40) (i:Nat) (x:GDoc) (hx:D[i]?=some x):∀ (q k:Nat),i - k=q->k<=i →
 ((∀ j,k<=j->j<i->∀ y,D[j]?=some y->x.id ≠ y.id)/\LoopC Tryz.prog W [] (nslots Tryz.prog 4) (loopOf Tryz.prog 4 1) (T41 h l D i k) (.exit 2) (T40 h l D i))\/LoopC Tryz.prog W [] (nslots Tryz.prog 4) (loopOf Tryz.prog 4 1) (T41 h l D i k) .ret (R4b true):=by
 have hi:=(List.getElem?_eq_some_iff.1 hx).1
 have hg:=gdocs_at hx
 rw [Nat.zero_add] at hg
 have h9:MutC Tryz.prog W 9 [] [] (.ret (bA true) []):=mut_of_pure rfl (live9 W)
 intro q
 induction q with
 | zero =>
  intro k hq hk
  exact .inl ⟨fun j h1 h2=>by omega,loop_last (by simp) (body_of_sbodyK mixedz (b41_2 W D h l i k) Ij_z2 [] [] Ij_z1)⟩
 | succ q ih =>
  intro k hq hk
  obtain ⟨y,hy⟩:=getOf (l:=D) (i:=k) (by omega)
  have hg2:=gdocs_at hy
  rw [Nat.zero_add] at hg2
  have hws:IntKind.i64.wrap ((k:Int)+1)=((k+1:Nat):Int):=wrap_succ (by omega)
  by_cases he:x.id=y.id
  ·exact .inr (loop_last (by simp) (body_of_sbodyK mixedz (b41_0 W D x y h l i k) (by clear ih;exact Ij_z2) [] [] (by clear ih;exact Ij_z1)))
  ·have c1:decide (x.id=y.id)=false:=decide_eq_false he
   have st:∀ e σ,LoopC Tryz.prog W [] (nslots Tryz.prog 4) (loopOf Tryz.prog 4 1) (T41 h l D i (k+1)) e σ->LoopC Tryz.prog W [] (nslots Tryz.prog 4) (loopOf Tryz.prog 4 1) (T41 h l D i k) e σ:=fun e σ n1 =>
    loop_next (body_of_sbodyK mixedz (b41_1 W D x y h l i k) (by clear ih n1;exact Ij_z2) [] [] (σ3:=T41 h l D i (k+1)) (by clear ih n1;exact Ij_z1)) n1
   rcases ih (k+1) (by omega) (by omega) with ⟨g1,g2⟩|g2
   ·refine .inl ⟨fun j h1 h2 z hz=>?_,st _ _ g2⟩
    by_cases e:j=k
    ·subst e;rw [hy] at hz;cases hz;exact he
    ·exact g1 j (by omega) h2 z hz
   ·exact .inr (st _ _ g2)
theorem loop40 (h:JH) (l:List JV) (D:List GDoc) (hl:D.length<=2 ^ 40):∀ (q i:Nat),D.length - i=q->i<=D.length →
 ((∀ a x,i<=a->D[a]?=some x->∀ j,j<a->∀ y,D[j]?=some y->x.id ≠ y.id)/\LoopC Tryz.prog W [] (nslots Tryz.prog 4) (loopOf Tryz.prog 4 0) (T40 h l D i) (.exit 0) (E40 h l D))\/LoopC Tryz.prog W [] (nslots Tryz.prog 4) (loopOf Tryz.prog 4 0) (T40 h l D i) .ret (R4b true):=by
 have hdl:=gdocs_len D
 intro q
 induction q with
 | zero =>
  intro i hq hi
  exact .inl ⟨fun a x h1 h2=>by have:=(List.getElem?_eq_some_iff.1 h2).1;omega,loop_last (by simp) (body_of_sbodyK mixedz (b40n_1 W D h l i) Ij_z2 [] [] Ij_z1)⟩
 | succ q ih =>
  intro i hq hi
  obtain ⟨x,hx⟩:=getOf (l:=D) (i:=i) (by omega)
  have hws:IntKind.i64.wrap ((i:Int)+1)=((i+1:Nat):Int):=wrap_succ (by omega)
  rcases loop41 W h l D hl i x hx i 0 rfl (by omega) with ⟨g1,g2⟩|g2
  ·have st:∀ e σ,LoopC Tryz.prog W [] (nslots Tryz.prog 4) (loopOf Tryz.prog 4 0) (T40 h l D (i+1)) e σ->LoopC Tryz.prog W [] (nslots Tryz.prog 4) (loopOf Tryz.prog 4 0) (T40 h l D i) e σ:=fun e σ n1 =>
    loop_next (body_of_sbodyK mixedz (b40n_0 W D h l i) (by clear ih n1 g1;exact Ij_z2) [] [] (σ3:=T40 h l D (i+1)) (by clear ih n1 g1;exact Ij_z1)) n1
   rcases ih (i+1) (by omega) (by omega) with ⟨f1,f2⟩|f2
   ·refine .inl ⟨fun a z h1 h2 j h3 y h4=>?_,st _ _ f2⟩
    by_cases e:a=i
    ·subst e;rw [hx] at h2;cases h2;exact g1 j (by omega) h3 y h4
    ·exact f1 a z (by omega) h2 j h3 y h4
   ·exact .inr (st _ _ f2)
  ·exact .inr (loop_last (by simp) (body_of_sbodyK mixedz (b40r_0 W D h l i) (by clear ih;exact Ij_z2) [] [] (by clear ih;exact Ij_z1)))
theorem loop44 (KK:KS) (hK:KK.length<=2 ^ 40) (D:List GDoc) (hl:D.length<=2 ^ 40) (i k:Nat) (x y:GDoc) (hx:D[i]?=some x) (hy:D[k]?=some y):∀ (q j:Nat),D.length - j=q->j<=D.length->LoopC Tryz.prog W [] (nslots Tryz.prog 4) (loopOf Tryz.prog 4 4) (T44 KK D i k j (cmpD KK x.doc y.doc)) (.exit 8) (T43 KK D i k):=by
 have hdl:=gdocs_len D
 have hgx:=gdocs_at hx
 have hgy:=gdocs_at hy
 rw [Nat.zero_add] at hgx hgy
 intro q
 induction q with
 | zero =>
  intro j hq hj
  generalize cmpD KK x.doc y.doc=z
  exact loop_last (by simp) (body_of_sbodyK mixedz (b44_4 W KK D i k j z) Ij_z2 [] [] Ij_z1)
 | succ q ih =>
  intro j hq hj
  obtain ⟨u,hu⟩:=getOf (l:=D) (i:=j) (by omega)
  have hgu:=gdocs_at hu
  rw [Nat.zero_add] at hgu
  have hws:IntKind.i64.wrap ((j:Int)+1)=((j+1:Nat):Int):=wrap_succ (by omega)
  have h1:MutC Tryz.prog W 13 [sortA KK,docG y,docG u] [] (.ret (iA (cmpD KK y.doc u.doc)) []):=compare13 W KK y.doc u.doc y.ok u.ok hK
  have h2:MutC Tryz.prog W 13 [sortA KK,docG x,docG u] [] (.ret (iA (cmpD KK x.doc u.doc)) []):=compare13 W KK x.doc u.doc x.ok u.ok hK
  have hlt:cmpD KK x.doc y.doc<0->cmpD KK y.doc u.doc<0->cmpD KK x.doc u.doc<0:=fun a b=>(cmpD_cmp KK).lt_le a (by omega)
  have nx:=ih (j+1) (by omega) (by omega)
  generalize cmpD KK x.doc y.doc=z at *
  generalize cmpD KK y.doc u.doc=z2 at *
  generalize cmpD KK x.doc u.doc=z3 at *
  by_cases c1:z<0
  ·by_cases c2:z2<0
   ·have c3:=hlt c1 c2
    clear hlt
    exact loop_next (body_of_sbodyK mixedz (b44_1 W KK D y u x j0h [] i k j z z2 z3) (by clear nx ih;exact Ij_z2) [] [] (σ3:=T44 KK D i k (j+1) z) (by clear nx ih;exact Ij_z1)) nx
   ·clear hlt
    exact loop_next (body_of_sbodyK mixedz (b44_2 W KK D y u j0h [] i k j z z2) (by clear nx ih;exact Ij_z2) [] [] (σ3:=T44 KK D i k (j+1) z) (by clear nx ih;exact Ij_z1)) nx
  ·clear hlt
   exact loop_next (body_of_sbodyK mixedz (b44_3 W KK D i k j z) (by clear nx ih;exact Ij_z2) [] [] (σ3:=T44 KK D i k (j+1) z) (by clear nx ih;exact Ij_z1)) nx
def uniqI (D:List GDoc):Prop:=∀ (a:Nat) (x:GDoc),D[a]?=some x->∀ j,j<a->∀ y:GDoc,D[j]?=some y->x.id ≠ y.id
theorem uniqI_eq {D:List GDoc} (hU:uniqI D) {i k:Nat} {x y:GDoc} (hx:D[i]?=some x) (hy:D[k]?=some y) (he:x.id=y.id):i=k:=by
 rcases Nat.lt_trichotomy i k with h|h|h
 ·exact absurd he.symm (hU k y hy i h x hx)
 ·exact h
 ·exact absurd he (hU i x hx k h y hy)
theorem loop43 (KK:KS) (hK:KK.length<=2 ^ 40) (D:List GDoc) (hl:D.length<=2 ^ 40) (hU:uniqI D) (i:Nat) (x:GDoc) (hx:D[i]?=some x):∀ (q k:Nat),D.length - k=q->k<=D.length->LoopC Tryz.prog W [] (nslots Tryz.prog 4) (loopOf Tryz.prog 4 3) (T43 KK D i k) (.exit 6) (T42 KK D i):=by
 have hdl:=gdocs_len D
 have hgx:=gdocs_at hx
 rw [Nat.zero_add] at hgx
 intro q
 induction q with
 | zero =>
  intro k hq hk
  exact loop_last (by simp) (body_of_sbodyK mixedz (b43_5 W KK D i k) (by clear hU;exact Ij_z2) [] [] (by clear hU;exact Ij_z1))
 | succ q ih =>
  intro k hq hk
  obtain ⟨y,hy⟩:=getOf (l:=D) (i:=k) (by omega)
  have hgy:=gdocs_at hy
  rw [Nat.zero_add] at hgy
  have hws:IntKind.i64.wrap ((k:Int)+1)=((k+1:Nat):Int):=wrap_succ (by omega)
  have h1:MutC Tryz.prog W 13 [sortA KK,docG x,docG y] [] (.ret (iA (cmpD KK x.doc y.doc)) []):=compare13 W KK x.doc y.doc x.ok y.ok hK
  have h2:MutC Tryz.prog W 13 [sortA KK,docG y,docG x] [] (.ret (iA (cmpD KK y.doc x.doc)) []):=compare13 W KK y.doc x.doc y.ok x.ok hK
  have hl4:=loop44 W KK hK D hl i k x y hx hy D.length 0 rfl (by omega)
  have hsy:=(cmpD_cmp KK).sym x.doc y.doc
  have hr:=(cmpD_cmp KK).rng x.doc y.doc
  have hz0:cmpD KK x.doc y.doc=0 ↔ i=k:=by
   constructor
   ·intro h0
    exact uniqI_eq hU hx hy (cmpK_zero KK x.doc y.doc _ _ h0)
   ·intro e
    subst e
    rw [hx] at hy;cases hy
    have:=(cmpD_cmp KK).sym x.doc x.doc
    omega
  have nx:=ih (k+1) (by omega) (by omega)
  clear hU
  generalize cmpD KK x.doc y.doc=z at *
  generalize cmpD KK y.doc x.doc=z2 at *
  have hw:IntKind.i64.wrap (0 - z2)=z:=by
   have:z2=- z:=by omega
   subst this
   rcases hr with h|h|h<;>subst h<;>rfl
  have c1:(!decide (z=IntKind.i64.wrap (0 - z2)))=false:=by rw [hw,decide_eq_true rfl];rfl
  have c2:(!(decide (z=0) == decide ((i:Int)=(k:Int))))=false:=by
   by_cases e:i=k
   ·rw [decide_eq_true (hz0.2 e),decide_eq_true (by omega)];rfl
   ·rw [decide_eq_false (fun h=>e (hz0.1 h)),decide_eq_false (by omega)];rfl
  have c3:decide (z < -1)=false:=decide_eq_false (by omega)
  have c4:decide (1<z)=false:=decide_eq_false (by omega)
  clear hz0 hr hsy
  exact loop_next (body_of_sbodyK mixedz (b43_4 W KK D x y j0h [] i k z z2) (by clear nx ih;exact Ij_z2) [] [] (σ3:=T43 KK D i (k+1)) (by clear nx ih;exact Ij_z1)) nx
theorem loop42 (KK:KS) (hK:KK.length<=2 ^ 40) (D:List GDoc) (hl:D.length<=2 ^ 40) (hU:uniqI D):∀ (q i:Nat),D.length - i=q->i<=D.length->LoopC Tryz.prog W [] (nslots Tryz.prog 4) (loopOf Tryz.prog 4 2) (T42 KK D i) (.exit 4) (E42 KK D):=by
 have hdl:=gdocs_len D
 intro q
 induction q with
 | zero =>
  intro i hq hi
  exact loop_last (by simp) (body_of_sbodyK mixedz (b42_1 W KK D i) (by clear hU;exact Ij_z2) [] [] (by clear hU;exact Ij_z1))
 | succ q ih =>
  intro i hq hi
  obtain ⟨x,hx⟩:=getOf (l:=D) (i:=i) (by omega)
  have hws:IntKind.i64.wrap ((i:Int)+1)=((i+1:Nat):Int):=wrap_succ (by omega)
  have hl3:=loop43 W KK hK D hl hU i x hx D.length 0 rfl (by omega)
  have nx:=ih (i+1) (by omega) (by omega)
  clear hU
  exact loop_next (body_of_sbodyK mixedz (b42_0 W KK D i) (by clear nx ih;exact Ij_z2) [] [] (σ3:=T42 KK D (i+1)) (by clear nx ih;exact Ij_z1)) nx
theorem loop45 (KK:KS) (D R:List GDoc) (hl:D.length<=2 ^ 40):∀ (i:Nat) (B:List GDoc),i<=D.length->B.length+i=D.length->LoopC Tryz.prog W [] (nslots Tryz.prog 4) (loopOf Tryz.prog 4 5) (T45 KK D R B ((i:Int) - 1)) (.exit 10) (E45 KK D R (B++(D.take i).reverse)):=by
 have hdl:=gdocs_len D
 intro i
 induction i with
 | zero =>
  intro B hi hB
  rw [List.take_zero,List.reverse_nil,List.append_nil]
  exact loop_last (by simp) (body_of_sbodyK mixedz (b45_1 W KK D R B _) Ij_z2 [] [] Ij_z1)
 | succ i ih =>
  intro B hi hB
  obtain ⟨x,hx⟩:=getOf (l:=D) (i:=i) (by omega)
  have hgx:=gdocs_at hx
  rw [Nat.zero_add] at hgx
  have ez:(((i+1:Nat):Int) - 1)=(i:Int):=by omega
  rw [ez]
  have hws:IntKind.i64.wrap ((i:Int) - 1)=(i:Int) - 1:=IntWalk.i64_in _ (by omega)
  have nx:=ih (B++[x]) (by omega) (by rw [List.length_append];simp;omega)
  have er:B++[x]++(D.take i).reverse=B++(D.take (i+1)).reverse:=by
   rw [take_snoc hx,List.reverse_append,List.append_assoc];rfl
  rw [er] at nx
  have hBl:=gdocs_len B
  have hset:List.take B.length (docsG B)++[docG x]=docsG (B++[x]):=by rw [<-hBl,List.take_length];exact gdocs_app B [x]
  have hgl:B.length+[docG x].length=(B++[x]).length:=by rw [List.length_append];rfl
  have hb2:(B.length+[docG x].length) * 104<=140737488355328:=by show (B.length+1) * 104<=_;omega
  generalize B++(D.take (i+1)).reverse=F at *
  exact loop_next (body_of_sbodyK mixedz (b45_0 W KK D R B x j0h [] (i:Int)) (by clear nx ih;exact Ij_z2) [(100000,100002)] [] (σ3:=T45 KK D R (B++[x]) ((i:Int) - 1)) (by clear nx ih;exact Ij_z1)) nx
theorem frz45 (KK:KS) (D R B:List GDoc):FrzTo [] ⟨[(1,sL 7 (docsG D)),(7,sortA KK),(15,sL 7 (docsG R)),(16,.gs 100000 0 B.length)],[(100000,.arr 40 7 (docsG B) .own)]⟩ [(100000,.arr 40 7 (docsG B) .own)] [] [] (Z45 KK D R B):=by
 refine ⟨⟨gdocs_clo B,trivial⟩,⟨[(1,sL 7 (docsG D)),(7,sortA KK),(15,sL 7 (docsG R)),(16,sL 7 (docsG B))],frzL [(100000,.arr 40 7 (docsG B) .own)] [(100000,.arr 40 7 (docsG B) .own)]⟩,?_,?_⟩
 ·unfold AS.frz
  congr 1
  simp [clT,clA,lk,sortA,gdocs_len]
  rw [<-gdocs_len B,List.take_length]
 ·exact Ij_z1
theorem sorted_lt (KK:KS) {D:List GDoc} (hU:∀ x ∈ D,∀ y ∈ D,x.id=y.id->x=y) (hnd:∀ (i k:Nat) (x:GDoc),D[i]?=some x->D[k]?=some x->i=k) {i:Nat} {x y:GDoc} (hs:srtd (gLt KK) D) (hx:D[i]?=some x) (hy:D[i+1]?=some y):cmpD KK x.doc y.doc<0:=by
 obtain ⟨h1,e1⟩:=List.getElem?_eq_some_iff.1 hx
 obtain ⟨h2,e2⟩:=List.getElem?_eq_some_iff.1 hy
 have h3:=List.pairwise_iff_getElem.1 hs i (i+1) h1 h2 (by omega)
 rw [e1,e2] at h3
 have h4:¬ cmpD KK y.doc x.doc<0:=by unfold gLt at h3;simpa using h3
 have hsy:=(cmpD_cmp KK).sym x.doc y.doc
 have h5:cmpD KK x.doc y.doc ≠ 0:=fun h0=>by
  have he:x.id=y.id:=cmpK_zero KK x.doc y.doc _ _ h0
  have:=hU x (List.mem_of_getElem? hx) y (List.mem_of_getElem? hy) he
  subst this
  have:=hnd i (i+1) x hx hy
  omega
 omega
theorem loop46 (KK:KS) (hK:KK.length<=2 ^ 40) (D R:List GDoc) (hl:D.length<=2 ^ 40) (hp:R.Perm D) (hok:∀ y ∈ D,okV y.doc.v) (hs:∀ (i:Nat) (x y:GDoc),R[i]?=some x->R[i+1]?=some y->cmpD KK x.doc y.doc<0):∀ (q i:Nat),D.length - i=q->i<=D.length->LoopC Tryz.prog W [] (nslots Tryz.prog 4) (loopOf Tryz.prog 4 6) (T46 KK D R i) (.exit 12) E46:=by
 have hdl:=gdocs_len D
 have hRl:=hp.length_eq
 have hrl:=gdocs_len R
 have hokR:∀ y ∈ R,okV y.doc.v:=fun y hy=>hok y (hp.mem_iff.1 hy)
 intro q
 induction q with
 | zero =>
  intro i hq hi
  exact loop_last (by simp) (body_of_sbodyK mixedz (b46_4 W KK D R i) (by clear hp hok hs hokR;exact Ij_z2) [] [] (by clear hp hok hs hokR;exact Ij_z1))
 | succ q ih =>
  intro i hq hi
  obtain ⟨x,hx⟩:=getOf (l:=D) (i:=i) (by omega)
  have hgx:=gdocs_at hx
  rw [Nat.zero_add] at hgx
  have hws:IntKind.i64.wrap ((i:Int)+1)=((i+1:Nat):Int):=wrap_succ (by omega)
  have h1:=mut_of_pure (by simp only [cloL,docG_clo,gdocs_clo,AV.clo,Bool.and_self]) (count18 W R x hokR (by omega))
  have h2:=mut_of_pure (by simp only [cloL,docG_clo,gdocs_clo,AV.clo,Bool.and_self]) (count18 W D x hok (by omega))
  rw [hp.countP_eq] at h1
  have nx:=ih (i+1) (by omega) (by omega)
  generalize (D.countP fun y=>sameB y x)=c at *
  obtain ⟨z,hz⟩:∃ z:Int,((c:Nat):Int)=z:=⟨_,rfl⟩
  rw [hz] at h1 h2
  have c1:(!decide (z=z))=false:=by rw [decide_eq_true rfl];rfl
  by_cases h0:i=0
  ·have c2:decide (0<(i:Int))=false:=decide_eq_false (by omega)
   clear hp hok hs hokR
   exact loop_next (body_of_sbodyK mixedz (b46_3 W KK D R x j0h [] i z) (by clear nx ih;exact Ij_z2) [] [] (σ3:=T46 KK D R (i+1)) (by clear nx ih;exact Ij_z1)) nx
  ·have c2:decide (0<(i:Int))=true:=decide_eq_true (by omega)
   obtain ⟨y,hy⟩:=getOf (l:=R) (i:=i - 1) (by omega)
   obtain ⟨u,hu⟩:=getOf (l:=R) (i:=i) (by omega)
   have hgy:=gdocs_at hy
   have hgu:=gdocs_at hu
   rw [Nat.zero_add] at hgy hgu
   have hwm:IntKind.i64.wrap ((i:Int) - 1)=((i - 1:Nat):Int):=by
    have e:((i - 1:Nat):Int)=(i:Int) - 1:=by omega
    rw [e];exact IntWalk.i64_in _ (by omega)
   have h13:MutC Tryz.prog W 13 [sortA KK,docG y,docG u] [] (.ret (iA (cmpD KK y.doc u.doc)) []):=compare13 W KK y.doc u.doc y.ok u.ok hK
   have hlt:=hs (i - 1) y u hy (by rw [show i - 1+1=i by omega];exact hu)
   generalize cmpD KK y.doc u.doc=z2 at *
   have c3:decide (0<=z2)=false:=decide_eq_false (by omega)
   clear hp hok hs hokR
   have hb:=b46_2 W KK D R x y u j0h [] i z z2
   rw [hwm] at hb
   exact loop_next (body_of_sbodyK mixedz hb (by clear nx ih hb;exact Ij_z2) [] [] (σ3:=T46 KK D R (i+1)) (by clear nx ih hb;exact Ij_z1)) nx
theorem totals4 (v:JV) (D:List Doc) (hok:okV v) (hN:∀ s ∈ v.names,s.length<=2 ^ 30) (hD:∀ x ∈ D,okV x.v) (ht:∀ x ∈ D,tnV x.v) (hl:D.length<=2 ^ 41):Pure Tryz.prog W 4 [encV v,.sl 7 (docsA D) []] (bA true):=by
 have h9:MutC Tryz.prog W 9 [] [] (.ret (bA true) []):=mut_of_pure rfl (live9 W)
 obtain ⟨b,hb7,hcv⟩:=large7 W v hok
 have hM7:=large7M W v b hb7
 obtain ⟨b2,hb8,hcd⟩:=manyC W D hD (by omega)
 have h8:MutC Tryz.prog W 8 [.sl 7 (docsA D) []] [] (.ret (bA b2) []):=mut_of_pure (by simp [cloL,AV.clo,docs_clo]) hb8
 have h10:=mut_of_pure (by simp only [cloL,encV_clo,Bool.and_self]) (parse10 W v hN)
 have h11:=mut_of_pure (by simp only [cloL,encV_clo,Bool.and_self]) (parse11 W v hN)
 have hd0:=docs_len D
 cases b with
 | true =>
  clear hN hD ht hcv hcd
  obtain ⟨h,l⟩:=v
  exact pure_of_mut rfl (mut_of_sfun mixedz call4 rfl (p4g_0 W D h l true) Ij_z2)
 | false =>
 cases b2 with
 | true =>
  clear hN hD ht hcv hcd
  obtain ⟨h,l⟩:=v
  exact pure_of_mut rfl (mut_of_sfun mixedz call4 rfl (p4g_1 W D h l false true) Ij_z2)
 | false =>
 obtain ⟨h150,hdc⟩:=hcd rfl
 by_cases h30:30<D.length
 ·have c30:decide (30<((docsA D).length:Int))=true:=decide_eq_true (by omega)
  clear hN hD ht hcv hcd
  obtain ⟨h,l⟩:=v
  exact pure_of_mut rfl (mut_of_sfun mixedz call4 rfl (p4g_2 W D h l false false) Ij_z2)
 have hG:∀ d ∈ D,GV d.v:=fun d hd=>⟨by have:=dcnt_mem hd;omega,ht d hd⟩
 obtain ⟨E,hE⟩:=lift_docs D hG
 subst hE
 rw [List.length_map] at h30
 rw [docsG_eq] at h8 ⊢
 have hdl:=gdocs_len E
 have c30:decide (30<((docsG E).length:Int))=false:=decide_eq_false (by omega)
 obtain ⟨h,l⟩:=v
 rcases loop40 W h l E (by omega) E.length 0 rfl (by omega) with ⟨hU,l40⟩|l40
 case inr =>
  clear hN hD ht hcv hcd hG
  exact pure_of_mut rfl (mut_of_sfun mixedz call4 rfl (p4d_0 W E h l) Ij_z2)
 cases hp:prsV (.mk h l) with
 | error e =>
  have he:=prs_pos hp
  rw [hp] at h10 h11
  have h10':MutC Tryz.prog W 10 [encV (.mk h l)] [] (.ret (.tup [.val (.pointer none),iA e]) []):=h10
  have h11':MutC Tryz.prog W 11 [encV (.mk h l)] [] (.ret (.tup [.val (.slice none 0 0),iA e]) []):=h11
  clear hN hD ht hcv hcd h10 h11 hG hU
  have c1:(!decide (e=0))=true:=by rw [decide_eq_false he];rfl
  exact pure_of_mut rfl (mut_of_sfun mixedz call4 rfl (p4e_0 W E h l e) Ij_z2)
 | ok KK =>
  have hK8:=prs_len hp
  rw [hp] at h10 h11
  have h10':MutC Tryz.prog W 10 [encV (.mk h l)] [] (.ret (.tup [sortA KK,iA 0]) []):=h10
  have h11':MutC Tryz.prog W 11 [encV (.mk h l)] [] (.ret (.tup [.sl 2 (rksA KK) [],iA 0]) []):=h11
  have hUI:uniqI E:=fun a x hx j hj y hy=>hU a x (by omega) hx j hj y hy
  have hUm:∀ x ∈ E,∀ y ∈ E,x.id=y.id->x=y:=fun x hx y hy he=>by
   obtain ⟨i,hi⟩:=List.getElem?_of_mem hx
   obtain ⟨k,hk⟩:=List.getElem?_of_mem hy
   have:=uniqI_eq hUI hi hk he
   subst this
   rw [hi] at hk;cases hk;rfl
  have hnodup:E.Nodup:=by
   refine List.pairwise_iff_getElem.2 fun i j hi hj hij he=>?_
   exact hUI j E[j] (by simp) i hij E[i] (by simp) (by rw [he])
  have hpR:(sortS (gLt KK) E).Perm E:=sort_perm E
  have hpB:(sortS (gLt KK) E.reverse).Perm (sortS (gLt KK) E):=(sort_perm _).trans ((List.reverse_perm E).trans hpR.symm)
  have hsR:=sort_srtd (gSwo KK) E
  have hRB:sortS (gLt KK) E.reverse=sortS (gLt KK) E:=by
   refine srt_eq _ _ (sort_srtd (gSwo KK) _) hsR hpB fun x hx y hy h1 h2=>?_
   have hxE:=hpR.mem_iff.1 (hpB.mem_iff.1 hx)
   have hyE:=hpR.mem_iff.1 (hpB.mem_iff.1 hy)
   refine hUm x hxE y hyE ?_
   have h3:¬ cmpD KK x.doc y.doc<0:=by unfold gLt at h1;simpa using h1
   have h4:¬ cmpD KK y.doc x.doc<0:=by unfold gLt at h2;simpa using h2
   have hsy:=(cmpD_cmp KK).sym x.doc y.doc
   exact cmpK_zero KK x.doc y.doc _ _ (show cmpD KK x.doc y.doc=0 by omega)
  have hndR:(sortS (gLt KK) E).Nodup:=hpR.nodup_iff.2 hnodup
  have hsl:∀ (i:Nat) (x y:GDoc),(sortS (gLt KK) E)[i]?=some x->(sortS (gLt KK) E)[i+1]?=some y->cmpD KK x.doc y.doc<0:=fun i x y hx hy =>
   sorted_lt KK (D:=sortS (gLt KK) E) (fun x hx y hy he=>hUm x (hpR.mem_iff.1 hx) y (hpR.mem_iff.1 hy) he) (fun i k x h1 h2=>by
    obtain ⟨g1,e1⟩:=List.getElem?_eq_some_iff.1 h1
    obtain ⟨g2,e2⟩:=List.getElem?_eq_some_iff.1 h2
    rcases Nat.lt_trichotomy i k with q|q|q
    ·exact absurd (e1.trans e2.symm) (List.pairwise_iff_getElem.1 hndR i k g1 g2 q)
    ·exact q
    ·exact absurd (e2.trans e1.symm) (List.pairwise_iff_getElem.1 hndR k i g2 g1 q)) hsR hx hy
  have hokE:∀ y ∈ E,okV y.doc.v:=fun y hy=>hD _ (List.mem_map.2 ⟨y,hy,rfl⟩)
  have hRok:∀ x ∈ (sortS (gLt KK) E).map GDoc.doc,okV x.v:=fun x hx=>by
   obtain ⟨y,hy,rfl⟩:=List.mem_map.1 hx
   exact hokE y (hpR.mem_iff.1 hy)
  have h15:=mut_of_pure (by simp only [sortA,cloL,kys_clo,gdocs_clo,AV.clo,Bool.and_self]) (gorder15 W KK (by omega) E (by omega))
  have h15b:=mut_of_pure (by simp only [sortA,cloL,kys_clo,gdocs_clo,AV.clo,Bool.and_self]) (gorder15 W KK (by omega) E.reverse (by rw [List.length_reverse];omega))
  rw [hRB] at h15b
  have hRl:=hpR.length_eq
  have h17R:MutC Tryz.prog W 17 [.sl 7 (docsG (sortS (gLt KK) E)) [],.sl 7 (docsG (sortS (gLt KK) E)) []] [] (.ret (bA true) []):=by
   have:=docs17 W ((sortS (gLt KK) E).map GDoc.doc) hRok (by rw [List.length_map];omega)
   rw [docsG_eq] at this
   exact mut_of_pure (by simp only [cloL,gdocs_clo,AV.clo,Bool.and_self]) this
  have l42:=loop42 W KK (by omega) E (by omega) hUI E.length 0 rfl (by omega)
  have l45:=loop45 W KK E (sortS (gLt KK) E) (by omega) E.length [] (by omega) (by simp)
  rw [List.nil_append,List.take_length] at l45
  have l46:=loop46 W KK (by omega) E (sortS (gLt KK) E) (by omega) hpR hokE hsl E.length 0 rfl (by omega)
  have hrl:=gdocs_len (sortS (gLt KK) E)
  have hfz:=frz45 KK E (sortS (gLt KK) E) E.reverse
  clear hN hD ht hcv hcd h10 h11 hG hU hUI hUm hnodup hpB hsR hRB hndR hsl hokE hRok hpR
  generalize sortS (gLt KK) E=R at *
  have hws:IntKind.i64.wrap (((docsG E).length:Int) - 1)=(E.length:Int) - 1:=by rw [hdl];exact IntWalk.i64_in _ (by omega)
  have c5:(!decide (((docsG R).length:Int)=((docsG E).length:Int)))=false:=by rw [decide_eq_true (by omega)];rfl
  exact pure_of_mut rfl (mut_of_sfun mixedz call4 rfl (p4_1 W KK E R E.reverse h l ((E.length:Int) - 1)) Ij_z2)
end
end De
end Go.Ac

