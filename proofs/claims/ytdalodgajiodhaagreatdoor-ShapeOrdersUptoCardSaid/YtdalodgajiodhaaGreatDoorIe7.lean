/- What is proved: contracts of functions of this translation, walked; their plain meaning. No condition beyond those that each theorem names. -/
import Derived.Test.YtdalodgajiodhaaGreatDoorMb6
set_option linter.all false
namespace Go.Ac
open Go Go.Proofs Go.RowKit
set_option maxRecDepth 10000
set_option maxHeartbeats 1000000
namespace De
open Dd
def BEHD:AV:=.agg [.str [98,101,104,105,110,100],iA 0,iA 0,iA 0,.str [],.val (.slice none 0 0),.val (.slice none 0 0)]
def S3 (KK:KS) (D:List GDoc) (i:Nat):AS:=⟨[(1,.sl 7 (docsG D) []),(5,sortA KK),(7,.sl 2 (rksA KK) []),(9,iA i)],[]⟩
def E3 (KK:KS) (D:List GDoc):AS:=⟨[(1,.sl 7 (docsG D) []),(5,sortA KK),(7,.sl 2 (rksA KK) [])],[]⟩
def Z3 (KK:KS) (D:List GDoc):AS:=⟨[(1,.sl 7 (docsG D) []),(5,sortA KK),(7,.sl 2 (rksA KK) []),(10,.sl 7 (docsG D++[BEHD]) [])],[]⟩
def L3a (D R:List GDoc) (els:List AV) (n i:Nat):AS:=⟨[(1,.sl 7 (docsG D) []),(10,.sl 7 (docsG D++[BEHD]) []),(11,.gs 100010 0 n),(12,.sl 7 (docsG R) []),(13,.sl 7 (docsG R) []),(14,iA i)],[(100010,.arr 40 7 els .own)]⟩
def L3e (D R:List GDoc) (els:List AV) (n:Nat):AS:=⟨[(1,.sl 7 (docsG D) []),(10,.sl 7 (docsG D++[BEHD]) []),(11,.gs 100010 0 n),(12,.sl 7 (docsG R) []),(13,.sl 7 (docsG R) [])],[(100010,.arr 40 7 els .own)]⟩
def L3b (D R:List GDoc) (els:List AV) (i:Nat):AS:=⟨[(1,.sl 7 (docsG D) []),(10,.sl 7 (docsG D++[BEHD]) []),(11,.gs 100010 0 els.length),(12,.sl 7 (docsG R) []),(13,.sl 7 (docsG R) []),(15,iA i)],[(100010,.arr 40 7 els .own)]⟩
def L3f (D R:List GDoc):AS:=⟨[(1,.sl 7 (docsG D) []),(10,.sl 7 (docsG D++[BEHD]) []),(12,.sl 7 (docsG R) []),(13,.sl 7 (docsG R) [])],[]⟩
theorem p3g_0 (W:World) (D0:List Doc) (h:JH) (l:List JV) (b:Bool):sF W {lp:=true,ol:=true,tl:=[7,8,9,10,11,13,14,15,16,17]} 3 [eV h l,.sl 7 (docsA D0) []] [] 100000 [ee,.lg,ee,cR (bA b) [(100001,.arr 25 5 [eV h l] .own)],bt,bt,bt,ee,.lg,ee,cR (bA true) [],ee] []=.ok (.ret (bA true) [],[ee],[MZ W 9 [] [] (.ret (bA true) []),cloHs [],b=true,b=true,b=true,MZ W 7 [.gs 100001 0 1] [(100001,.arr 25 5 [eV h l] .own)] (.ret (bA b) [(100001,.arr 25 5 [eV h l] .own)]),cloHs [(100001,.arr 25 5 [eV h l] .own)]]):=kr
theorem p3g_1 (W:World) (D0:List Doc) (h:JH) (l:List JV) (b b2:Bool):sF W {lp:=true,ol:=true,tl:=[7,8,9,10,11,13,14,15,16,17]} 3 [eV h l,.sl 7 (docsA D0) []] [] 100000 [ee,.lg,ee,cR (bA b) [(100001,.arr 25 5 [eV h l] .own)],bf,bf,ee,.lg,ee,cR (bA b2) [],bf,bt,ee,.lg,ee,cR (bA true) [],ee] []=.ok (.ret (bA true) [],[ee],[MZ W 9 [] [] (.ret (bA true) []),cloHs [],b2=true,b=false,MZ W 8 [sL 7 (docsA D0)] [] (.ret (bA b2) []),cloHs [],b=false,b=false,MZ W 7 [.gs 100001 0 1] [(100001,.arr 25 5 [eV h l] .own)] (.ret (bA b) [(100001,.arr 25 5 [eV h l] .own)]),cloHs [(100001,.arr 25 5 [eV h l] .own)]]):=kr
theorem p3e_1 (W:World) (D0:List Doc) (h:JH) (l:List JV) (e:Int):sF W {lp:=true,ol:=true,tl:=[7,8,9,10,11,13,14,15,16,17]} 3 [eV h l,.sl 7 (docsA D0) []] [] 100000 [ee,.lg,ee,cR (bA false) [(100001,.arr 25 5 [eV h l] .own)],ee,.lg,ee,cR (bA false) [],ee,.lg,ee,cR (.tup [.val (Value.pointer none),iA e]) [],ee,.lg,ee,cR (.tup [.val (Value.slice none 0 0),iA e]) [],aE 1,bf,ee,.lg,ee,cR (bA true) [],bf,bf,aE 1,bt,ee] []=.ok (.ret (bA true) [],[ee],((!decide (e=0))=true)::(d2 ((!decide (e=e))=false) [MZ W 9 [] [] (.ret (bA true) []),cloHs [],(!decide (e=e))=false,MZ W 11 [eV h l] [] (.ret (.tup [.val (Value.slice none 0 0),iA e]) []),cloHs [],MZ W 10 [eV h l] [] (.ret (.tup [.val (Value.pointer none),iA e]) []),cloHs [],MZ W 8 [sL 7 (docsA D0)] [] (.ret (bA false) []),cloHs [],MZ W 7 [.gs 100001 0 1] [(100001,.arr 25 5 [eV h l] .own)] (.ret (bA false) [(100001,.arr 25 5 [eV h l] .own)]),cloHs [(100001,.arr 25 5 [eV h l] .own)]])):=kr
theorem p3_0 (W:World) (KK:KS) (D R:List GDoc) (h:JH) (l:List JV) (els:List AV) (n:Nat):sF W {lp:=true,ol:=true,fz:=[(15,[100003])],tl:=[7,8,9,10,11,13,14,15,16,17]} 3 [eV h l,.sl 7 (docsG D) []] [] 100000 [ee,.lg,ee,cR (bA false) [(100001,.arr 25 5 [eV h l] .own)],ee,.lg,ee,cR (bA false) [],ee,.lg,ee,cR (.tup [sortA KK,iA 0]) [],ee,.lg,ee,cR (.tup [sL 2 (rksA KK),iA 0]) [],ee,.lg,ee,cR (bA true) [],ee,.loopM [] [] (S3 KK D 0) (.exit 0) (E3 KK D),aE 2,.lg,aE 1,.lg,.lg,ee,.loopM [] [] (Z3 KK D) .normal (Z3 KK D),aE 1,.lg,ee,.lg,ee,cR (.gs 100010 0 n) [(100010,.arr 40 7 (docsG R) .own)],aE 1,.lg,ee,.lg,ee,cR (sL 7 (docsG R)) [],ee,.lg,ee,cR (sL 7 (docsG R)) [],ee,.lg,ee,cR (bA true) [(100010,.arr 40 7 (docsG R) .own)],ee,.lg,ee,cR (bA true) [],aE 7,.lg,ee,.lg,ee,cR (bA true) [],aE 7,oS BEHD,ee,.loopM [] [] (L3a D R (docsG R) n 0) (.exit 2) (L3e D R els n),ee,.loopM [] [] (L3b D R els 0) (.exit 4) (L3f D R),ee,.lg,ee,cR (bA true) [],aE 5,.lg,ee,.lg,ee,cR (bA true) [],ee] []=.ok (.ret (bA true) [],[aE 9999999],[MZ W 17 [AV.sl 7 (List.drop 0 (List.take (↑(docsG D).length:Int).toNat (docsG D++[BEHD]++[]))) (List.drop (↑(docsG D).length:Int).toNat (docsG D++[BEHD]++[])),sL 7 (docsG D)] [] (.ret (bA true) []),cloHs [],0<=(↑(docsG D).length:Int)/\(↑(docsG D).length:Int)<=(↑(docsG D++[BEHD]).length:Int)+0,MZ W 17 [sL 7 (docsG R),sL 7 (docsG R)] [] (.ret (bA true) []),cloHs [],LZ W [] 3 2 {t:=[(1,sL 7 (docsG D)),(10,sL 7 (docsG D++[BEHD])),(11,.gs 100010 0 els.length),(12,sL 7 (docsG R)),(13,sL 7 (docsG R)),(15,iA 0)],h:=[(100010,.arr 40 7 els .own)]} (.exit 4) {t:=[(1,sL 7 (docsG D)),(10,sL 7 (docsG D++[BEHD])),(12,sL 7 (docsG R)),(13,sL 7 (docsG R))],h:=[]},MatchK [] [] [] {t:=[(1,sL 7 (docsG D)),(10,sL 7 (docsG D++[BEHD])),(11,.gs 100010 0 n),(12,sL 7 (docsG R)),(13,sL 7 (docsG R)),(15,iA 0)],h:=[(100010,.arr 40 7 els .own)]} {t:=[(1,sL 7 (docsG D)),(10,sL 7 (docsG D++[BEHD])),(11,.gs 100010 0 els.length),(12,sL 7 (docsG R)),(13,sL 7 (docsG R)),(15,iA 0)],h:=[(100010,.arr 40 7 els .own)]},LZ W [] 3 1 {t:=[(1,sL 7 (docsG D)),(10,sL 7 (docsG D++[BEHD])),(11,.gs 100010 0 n),(12,sL 7 (docsG R)),(13,sL 7 (docsG R)),(14,iA 0)],h:=[(100010,.arr 40 7 (docsG R) .own)]} (.exit 2) {t:=[(1,sL 7 (docsG D)),(10,sL 7 (docsG D++[BEHD])),(11,.gs 100010 0 n),(12,sL 7 (docsG R)),(13,sL 7 (docsG R))],h:=[(100010,.arr 40 7 els .own)]},MatchK [] [] [] {t:=[(1,sL 7 (docsG D)),(10,sL 7 (docsG D++[BEHD])),(11,.gs 100010 0 n),(12,sL 7 (docsG R)),(13,sL 7 (docsG R)),(14,iA 0)],h:=[(100010,.arr 40 7 (docsG R) .own)]} {t:=[(1,sL 7 (docsG D)),(10,sL 7 (docsG D++[BEHD])),(11,.gs 100010 0 n),(12,sL 7 (docsG R)),(13,sL 7 (docsG R)),(14,iA 0)],h:=[(100010,.arr 40 7 (docsG R) .own)]},(docsG D++[BEHD])[(↑(docsG D).length:Int).toNat]?=some (AV.agg [.str [98,101,104,105,110,100],iA 0,iA 0,iA 0,.str [],.val (Value.slice none 0 0),.val (Value.slice none 0 0)]),MZ W 17 [AV.sl 7 (List.drop 0 (List.take (↑(docsG D).length:Int).toNat (docsG D++[BEHD]++[]))) (List.drop (↑(docsG D).length:Int).toNat (docsG D++[BEHD]++[])),sL 7 (docsG D)] [] (.ret (bA true) []),cloHs [],0<=(↑(docsG D).length:Int)/\(↑(docsG D).length:Int)<=(↑(docsG D++[BEHD]).length:Int)+0,MZ W 17 [sL 7 (docsG R),sL 7 (docsG R)] [] (.ret (bA true) []),cloHs [],MZ W 17 [.gs 100010 0 n,sL 7 (docsG R)] [(100010,.arr 40 7 (docsG R) .own)] (.ret (bA true) [(100010,.arr 40 7 (docsG R) .own)]),cloHs [(100010,.arr 40 7 (docsG R) .own)],MZ W 16 [sL 2 (rksA KK),sL 7 (docsG D)] [] (.ret (sL 7 (docsG R)) []),cloHs [],MZ W 15 [(AV.agg [sL 2 (kysA KK)]).ip 0,AV.sl 7 (List.drop 0 (List.take (↑(docsG D).length:Int).toNat (docsG D++[BEHD]++[]))) (List.drop (↑(docsG D).length:Int).toNat (docsG D++[BEHD]++[]))] [] (.ret (sL 7 (docsG R)) []),cloHs [],0<=(↑(docsG D).length:Int)/\(↑(docsG D).length:Int)<=(↑(docsG D++[BEHD]).length:Int)+0,MZ W 15 [(AV.agg [sL 2 (kysA KK)]).ip 0,AV.sl 7 (List.drop 0 (List.take (↑(docsG D).length:Int).toNat (docsG D++[BEHD]++[]))) (List.drop (↑(docsG D).length:Int).toNat (docsG D++[BEHD]++[]))] [] (.ret (.gs 100010 0 n) [(100010,.arr 40 7 (docsG R) .own)]),cloHs [],0<=(↑(docsG D).length:Int)/\(↑(docsG D).length:Int)<=(↑(docsG D++[BEHD]).length:Int)+0,FrzTo [] {t:=[(1,sL 7 (docsG D)),(5,(AV.agg [sL 2 (kysA KK)]).ip 0),(7,sL 2 (rksA KK)),(10,.gs 100003 0 (0+(docsG D).length+[AV.agg [.str [98,101,104,105,110,100],iA 0,iA 0,iA 0,.str [],.val (Value.slice none 0 0),.val (Value.slice none 0 0)]].length))],h:=[(100000,.dead),(100001,.dead),(100002,.arr 40 7 [.agg [.str [98,101,104,105,110,100],iA 0,iA 0,iA 0,.str [],.val (Value.slice none 0 0),.val (Value.slice none 0 0)]] .own),(100003,.arr 40 7 (List.take (0+(docsG D).length) ([]++docsG D)++[AV.agg [.str [98,101,104,105,110,100],iA 0,iA 0,iA 0,.str [],.val (Value.slice none 0 0),.val (Value.slice none 0 0)]]) .own)]} [(100003,.arr 40 7 (List.take (0+(docsG D).length) ([]++docsG D)++[AV.agg [.str [98,101,104,105,110,100],iA 0,iA 0,iA 0,.str [],.val (Value.slice none 0 0),.val (Value.slice none 0 0)]]) .own)] [] [] {t:=[(1,sL 7 (docsG D)),(5,(AV.agg [sL 2 (kysA KK)]).ip 0),(7,sL 2 (rksA KK)),(10,sL 7 (docsG D++[BEHD]))],h:=[]},(0+(docsG D).length+[AV.agg [.str [98,101,104,105,110,100],iA 0,iA 0,iA 0,.str [],.val (Value.slice none 0 0),.val (Value.slice none 0 0)]].length) * 104<=140737488355328,(St.shr=St.own\/St.shr=St.shr/\0+(docsG D).length=([]++docsG D).length)/\0+(docsG D).length<=([]++docsG D).length,(0+(docsG D).length) * 104<=140737488355328,LZ W [] 3 0 {t:=[(1,sL 7 (docsG D)),(5,(AV.agg [sL 2 (kysA KK)]).ip 0),(7,sL 2 (rksA KK)),(9,iA 0)],h:=[]} (.exit 0) {t:=[(1,sL 7 (docsG D)),(5,(AV.agg [sL 2 (kysA KK)]).ip 0),(7,sL 2 (rksA KK))],h:=[]},MatchK [] [] [] {t:=[(1,sL 7 (docsG D)),(5,(AV.agg [sL 2 (kysA KK)]).ip 0),(7,sL 2 (rksA KK)),(9,iA 0)],h:=[(100000,gB (eV h l)),(100001,.arr 25 5 [eV h l] .own)]} {t:=[(1,sL 7 (docsG D)),(5,(AV.agg [sL 2 (kysA KK)]).ip 0),(7,sL 2 (rksA KK)),(9,iA 0)],h:=[]},MZ W 9 [] [] (.ret (bA true) []),cloHs [],MZ W 11 [eV h l] [] (.ret (.tup [sL 2 (rksA KK),iA 0]) []),cloHs [],MZ W 10 [eV h l] [] (.ret (.tup [(AV.agg [sL 2 (kysA KK)]).ip 0,iA 0]) []),cloHs [],MZ W 8 [sL 7 (docsG D)] [] (.ret (bA false) []),cloHs [],MZ W 7 [.gs 100001 0 1] [(100001,.arr 25 5 [eV h l] .own)] (.ret (bA false) [(100001,.arr 25 5 [eV h l] .own)]),cloHs [(100001,.arr 25 5 [eV h l] .own)]]):=kr
theorem b3_1 (W:World) (KK:KS) (D:List GDoc) (x y:GDoc) (h:JH) (l:List JV) (i:Nat) (z:Int):sQ W {lp:=true,ol:=true,tl:=[7,8,9,10,11,13,14,15,16,17]} 3 0 [] [1,4,5,7,9] (S3 KK D i) [bt,aE 1,oS (docG x),.lg,oS (docG y),ee,.lg,ee,cR (iA z) [],aE 1,oS (docG x),.lg,oS (docG y),ee,.lg,ee,cR (iA z) [],bf,ee]=.ok ((.normal,{t:=[(1,sL 7 (docsG D)),(5,(AV.agg [sL 2 (kysA KK)]).ip 0),(7,sL 2 (rksA KK)),(9,iA (IntKind.i64.wrap ((i:Int)+1)))],h:=[]}),[ee],[(!decide (z=z))=false,MZ W 14 [sL 2 (rksA KK),.agg [.str x.1,iA x.ver,iA x.h.kind,iA x.h.int,.str x.h.3,sL 1 (List.map AV.str x.h.names),sL 5 (encVs x.l)],.agg [.str y.1,iA y.ver,iA y.h.kind,iA y.h.int,.str y.h.3,sL 1 (List.map AV.str y.h.names),sL 5 (encVs y.l)]] [] (.ret (iA z) []),cloHs [],(docsG D)[(IntKind.i64.wrap ((i:Int)+1)).toNat]?=some (AV.agg [.str y.1,iA y.ver,iA y.h.kind,iA y.h.int,.str y.h.3,sL 1 (List.map AV.str y.h.names),sL 5 (encVs y.l)]),0<=IntKind.i64.wrap ((i:Int)+1),(docsG D)[(i:Int).toNat]?=some (AV.agg [.str x.1,iA x.ver,iA x.h.kind,iA x.h.int,.str x.h.3,sL 1 (List.map AV.str x.h.names),sL 5 (encVs x.l)]),MZ W 13 [(AV.agg [sL 2 (kysA KK)]).ip 0,.agg [.str x.1,iA x.ver,iA x.h.kind,iA x.h.int,.str x.h.3,sL 1 (List.map AV.str x.h.names),sL 5 (encVs x.l)],.agg [.str y.1,iA y.ver,iA y.h.kind,iA y.h.int,.str y.h.3,sL 1 (List.map AV.str y.h.names),sL 5 (encVs y.l)]] [] (.ret (iA z) []),cloHs [],(docsG D)[(IntKind.i64.wrap ((i:Int)+1)).toNat]?=some (AV.agg [.str y.1,iA y.ver,iA y.h.kind,iA y.h.int,.str y.h.3,sL 1 (List.map AV.str y.h.names),sL 5 (encVs y.l)]),0<=IntKind.i64.wrap ((i:Int)+1),(docsG D)[(i:Int).toNat]?=some (AV.agg [.str x.1,iA x.ver,iA x.h.kind,iA x.h.int,.str x.h.3,sL 1 (List.map AV.str x.h.names),sL 5 (encVs x.l)]),decide (IntKind.i64.wrap ((i:Int)+1)<(↑(docsG D).length:Int))=true]):=kr
theorem b3_2 (W:World) (KK:KS) (D:List GDoc) (i:Nat):sQ W {lp:=true,ol:=true,tl:=[7,8,9,10,11,13,14,15,16,17]} 3 0 [] [1,4,5,7,9] (S3 KK D i) [bf,ee]=.ok ((.exit 0,{t:=[(1,sL 7 (docsG D)),(5,(AV.agg [sL 2 (kysA KK)]).ip 0),(7,sL 2 (rksA KK)),(9,iA (i:Int))],h:=[]}),[ee],[decide (IntKind.i64.wrap ((i:Int)+1)<(↑(docsG D).length:Int))=false]):=kr
theorem b3a_0 (W:World) (D R:List GDoc) (els:List AV) (e0:AV) (i n:Nat):sQ W {lp:=true,ol:=true,tl:=[]} 3 1 [] [1,10,11,12,13,14] (L3a D R els n i) [bt,.lg,oS e0,ee]=.ok ((.normal,{t:=[(1,sL 7 (docsG D)),(10,sL 7 (docsG D++[BEHD])),(11,.gs 100010 0 n),(12,sL 7 (docsG R)),(13,sL 7 (docsG R)),(14,iA (IntKind.i64.wrap ((i:Int)+1)))],h:=[(100010,.arr 40 7 (els.set (0+(i:Int).toNat) (stV e0 0 (.agg [.str [115,112,111,105,108,116],iA 0,iA 0,iA 0,.str [],.val (Value.slice none 0 0),.val (Value.slice none 0 0)]))) .own)]}),[ee],[els[0+(i:Int).toNat]?=some e0,0<=(i:Int)/\(i:Int)<(n:Int),decide ((i:Int)<(n:Int))=true]):=kr
theorem b3a_1 (W:World) (D R:List GDoc) (els:List AV) (i n:Nat):sQ W {lp:=true,ol:=true,tl:=[]} 3 1 [] [1,10,11,12,13,14] (L3a D R els n i) [bf,ee]=.ok ((.exit 2,{t:=[(1,sL 7 (docsG D)),(10,sL 7 (docsG D++[BEHD])),(11,.gs 100010 0 n),(12,sL 7 (docsG R)),(13,sL 7 (docsG R)),(14,iA (i:Int))],h:=[(100010,.arr 40 7 els .own)]}),[ee],[decide ((i:Int)<(n:Int))=false]):=kr
theorem b3b_0 (W:World) (D R:List GDoc) (els:List AV) (i:Nat):sQ W {lp:=true,ol:=true,tl:=[]} 3 2 [] [1,10,11,12,13,15] (L3b D R els i) [bt,aE 1,.lg,.lg,ee]=.ok ((.normal,{t:=[(1,sL 7 (docsG D)),(10,sL 7 (docsG D++[BEHD])),(11,.gs 100012 0 (els.length+[AV.agg [.str [103,114,111,119,110],iA 0,iA 0,iA 0,.str [],.val (Value.slice none 0 0),.val (Value.slice none 0 0)]].length)),(12,sL 7 (docsG R)),(13,sL 7 (docsG R)),(15,iA (IntKind.i64.wrap ((i:Int)+1)))],h:=[(100010,.dead),(100011,.arr 40 7 [.agg [.str [103,114,111,119,110],iA 0,iA 0,iA 0,.str [],.val (Value.slice none 0 0),.val (Value.slice none 0 0)]] .own),(100012,.arr 40 7 (List.take els.length els++[AV.agg [.str [103,114,111,119,110],iA 0,iA 0,iA 0,.str [],.val (Value.slice none 0 0),.val (Value.slice none 0 0)]]) .own)]}),[ee],[(els.length+[AV.agg [.str [103,114,111,119,110],iA 0,iA 0,iA 0,.str [],.val (Value.slice none 0 0),.val (Value.slice none 0 0)]].length) * 104<=140737488355328,(St.own=St.own\/St.own=St.shr/\els.length=els.length)/\els.length<=els.length,decide ((i:Int)<8)=true]):=kr
theorem b3b_1 (W:World) (D R:List GDoc) (els:List AV) (i:Nat):sQ W {lp:=true,ol:=true,tl:=[]} 3 2 [] [1,10,11,12,13,15] (L3b D R els i) [bf,ee]=.ok ((.exit 4,{t:=[(1,sL 7 (docsG D)),(10,sL 7 (docsG D++[BEHD])),(11,.gs 100010 0 els.length),(12,sL 7 (docsG R)),(13,sL 7 (docsG R)),(15,iA (i:Int))],h:=[(100010,.arr 40 7 els .own)]}),[ee],[decide ((i:Int)<8)=false]):=kr
theorem zlL {φ ph x y} (h:LeP φ ph x y:=by first|exact .eq rfl rfl|exact .nil rfl|exact .nilS|exact .same rfl (by simp only [sortA,AV.clo,cloL,kys_clo,rks_clo,gdocs_clo,clo_append,Bool.and_self])|exact .same rfl rfl|exact .same (by rw [hws];rfl) rfl|exact .eq (congrArg (AV.gs _ 0) hgl) rfl):LeP φ ph x y:=h
theorem ztL {p:Prop} (h:p:=by and_intros<;>first|exact trivial|exact zlL):p:=h
theorem zhL {p:Prop} (h:p:=by and_intros<;>first|exact trivial|exact gOK_eq rfl rfl rfl|exact gOK_arr rfl rfl rfl (gdocs_clo _)|exact gOK_arr rfl rfl hset hclo):p:=h
theorem zvL {p:Prop} (h:p:=by and_intros<;>first|rfl|exact trivial|exact allN_cloL (gdocs_clo _)|exact allN_cloL hclo|exact allN_clo (by simp only [sortA,AV.clo,cloL,kys_clo,rks_clo,gdocs_clo,clo_append,Bool.and_self]<;>rfl)):p:=h
theorem Ih_z1 {kp f ph σ σ'} (h:MatchK kp f ph σ σ':=by exact ⟨by rfl,(by simp only [S3,E3,Z3,L3a,L3e,L3b,L3f,tOK,List.map_cons,List.map_nil,and_true]<;>exact ztL),(by simp only [S3,E3,Z3,L3a,L3e,L3b,L3f,hOK,List.map_cons,List.map_nil,and_true]<;>exact zhL),(by simp only [S3,E3,Z3,L3a,L3e,L3b,L3f,liveT,List.map_cons,List.map_nil,and_true]<;>exact zvL),(by simp only [S3,E3,Z3,L3a,L3e,L3b,L3f,liveH,List.map_cons,List.map_nil,and_true]<;>exact zvL)⟩):MatchK kp f ph σ σ':=h
theorem Ih_z2 {cs} (h:Holds cs:=by simp only [Holds,cloHs,and_true]<;>and_intros<;>first|assumption|exact gdocs_clo _|exact encV_clo _|exact decide_eq_true (by omega)|exact decide_eq_false (by omega)|omega|exact trivial|exact .inl trivial|exact .inr ⟨trivial,hgl3⟩|(constructor<;>omega)|exact ⟨.inl trivial,by omega⟩|exact Ih_z1):Holds cs:=h
theorem Ii_z2 {cs} (h:Holds cs:=by simp only [Holds,cloHs,and_true]<;>and_intros<;>first|assumption|exact gdocs_clo _|exact encV_clo _|exact decide_eq_true (by omega)|exact decide_eq_false (by omega)|omega|exact trivial|exact .inl trivial|exact .inr ⟨trivial,hgl3⟩|(simp only [cloL,encV_clo,Bool.and_self];done)|(constructor<;>omega)|exact ⟨.inl trivial,by omega⟩|exact hfz|exact Ih_z1):Holds cs:=h
theorem docsG_eq (D:List GDoc):docsA (D.map GDoc.doc)=docsG D:=by unfold docsA docsG;rw [List.map_map];rfl
theorem lift_docs:∀ D:List Doc,(∀ d ∈ D,GV d.v)->∃ E:List GDoc,E.map GDoc.doc=D
 | [],_=>⟨[],rfl⟩
 | ⟨i,v,.mk h l⟩::D,hD=>by
  obtain ⟨E,hE⟩:=lift_docs D fun d hd=>hD d (List.mem_cons_of_mem _ hd)
  exact ⟨⟨i,v,h,l,hD _ (List.mem_cons_self ..)⟩::E,by rw [List.map_cons,hE];rfl⟩
def spD:AV:=.agg [.str [115,112,111,105,108,116],iA 0,iA 0,iA 0,.str [],.val (.slice none 0 0),.val (.slice none 0 0)]
def grD:AV:=.agg [.str [103,114,111,119,110],iA 0,iA 0,iA 0,.str [],.val (.slice none 0 0),.val (.slice none 0 0)]
theorem stVsp (x:GDoc):stV (docG x) 0 spD=spD:=if_pos ⟨rfl,rfl⟩
theorem pure_rest1 {P:Program} {W:World} {f:FuncId} {a r:AV} {n:Nat} {els:List AV} (rest:List AV) (h:Pure P W f [.sl n els [],a] r):Pure P W f [.sl n els rest,a] r:=by
 intro β D I w vs hw hI hR
 cases hR with
 | cons ha hb=>exact h β D I w _ hw hI (.cons (R_rest ha) hb)
theorem call3:callable Tryz.prog 3=true:=kr
section
variable (W:World)
theorem loop3 (KK:KS) (hK:KK.length<=2 ^ 40) (D:List GDoc) (hl:D.length<=2 ^ 40):∀ (q i:Nat),D.length - i=q->i<=D.length->LoopC Tryz.prog W [] (nslots Tryz.prog 3) (loopOf Tryz.prog 3 0) (S3 KK D i) (.exit 0) (E3 KK D):=by
 have hdl:=gdocs_len D
 intro q
 induction q with
 | zero =>
  intro i hq hi
  have hws:IntKind.i64.wrap ((i:Int)+1)=((i+1:Nat):Int):=wrap_succ (by omega)
  have c1:decide (IntKind.i64.wrap ((i:Int)+1)<((docsG D).length:Int))=false:=by rw [hws];exact decide_eq_false (by omega)
  exact loop_last (by simp) (body_of_sbodyK mixedz (b3_2 W KK D i) Ih_z2 [] [] Ih_z1)
 | succ q ih =>
  intro i hq hi
  have hws:IntKind.i64.wrap ((i:Int)+1)=((i+1:Nat):Int):=wrap_succ (by omega)
  by_cases hi1:i+1<D.length
  ·have c1:decide (((i+1:Nat):Int)<((docsG D).length:Int))=true:=decide_eq_true (by omega)
   obtain ⟨x,hx⟩:=getOf (l:=D) (i:=i) (by omega)
   obtain ⟨y,hy⟩:=getOf (l:=D) (i:=i+1) (by omega)
   have hg1:=gdocs_at hx
   have hg2:=gdocs_at hy
   rw [Nat.zero_add] at hg1 hg2
   have h13:MutC Tryz.prog W 13 [sortA KK,docG x,docG y] [] (.ret (iA (cmpD KK x.doc y.doc)) []):=compare13 W KK x.doc y.doc x.ok y.ok hK
   have h14:MutC Tryz.prog W 14 [.sl 2 (rksA KK) [],docG x,docG y] [] (.ret (iA (cmpD KK x.doc y.doc)) []):=compare14 W KK x.doc y.doc x.ok y.ok hK
   generalize cmpD KK x.doc y.doc=z at *
   have c2:(!decide (z=z))=false:=by rw [decide_eq_true rfl];rfl
   have nx:=ih (i+1) (by omega) (by omega)
   have hb:=b3_1 W KK D x y ⟨0,0,[],[]⟩ [] i z
   rw [hws] at hb
   exact loop_next (body_of_sbodyK mixedz hb (by clear nx ih hb;exact Ih_z2) [] [] (σ3:=S3 KK D (i+1)) (by clear nx ih hb;exact Ih_z1)) nx
  ·have c1:decide (IntKind.i64.wrap ((i:Int)+1)<((docsG D).length:Int))=false:=by rw [hws];exact decide_eq_false (by omega)
   exact loop_last (by simp) (body_of_sbodyK mixedz (b3_2 W KK D i) (by clear ih;exact Ih_z2) [] [] (by clear ih;exact Ih_z1))
theorem loop3a (D R:List GDoc) (hl:R.length<=2 ^ 40):∀ (q i:Nat),R.length - i=q->i<=R.length->LoopC Tryz.prog W [] (nslots Tryz.prog 3) (loopOf Tryz.prog 3 1) (L3a D R (List.replicate i spD++docsG (R.drop i)) R.length i) (.exit 2) (L3e D R (List.replicate R.length spD) R.length):=by
 intro q
 induction q with
 | zero =>
  intro i hq hi
  have e:i=R.length:=by omega
  subst e
  have hset:List.replicate R.length spD++docsG (R.drop R.length)=List.replicate R.length spD:=by rw [List.drop_eq_nil_of_le (Nat.le_refl _)];exact List.append_nil _
  have hclo:=repl_clo spD rfl R.length
  exact loop_last (by simp) (body_of_sbodyK mixedz (b3a_1 W D R _ R.length R.length) Ih_z2 [] [] Ih_z1)
 | succ q ih =>
  intro i hq hi
  obtain ⟨x,hx⟩:=getOf (l:=R) (i:=i) (by omega)
  have hws:IntKind.i64.wrap ((i:Int)+1)=((i+1:Nat):Int):=wrap_succ (by omega)
  have nx:=ih (i+1) (by omega) (by omega)
  have e1:List.replicate i spD++docsG (R.drop i)=List.replicate i spD++docG x::docsG (R.drop (i+1)):=by rw [drop_cons hx];rfl
  have hget:(List.replicate i spD++docsG (R.drop i))[0+((i:Int)).toNat]?=some (docG x):=by
   rw [Int.toNat_natCast,Nat.zero_add,e1];exact get_mid (by rw [List.length_replicate])
  have hset:(List.replicate i spD++docsG (R.drop i)).set (0+((i:Int)).toNat) (stV (docG x) 0 spD)=List.replicate (i+1) spD++docsG (R.drop (i+1)):=by
   rw [Int.toNat_natCast,Nat.zero_add,e1,set_mid (by rw [List.length_replicate]),stVsp,List.replicate_succ',List.append_assoc];rfl
  have hclo:cloL (List.replicate (i+1) spD++docsG (R.drop (i+1)))=true:=by simp only [clo_append,gdocs_clo,repl_clo spD rfl,Bool.and_self]
  exact loop_next (body_of_sbodyK mixedz (b3a_0 W D R _ (docG x) i R.length) (by clear nx ih;exact Ih_z2) [] [] (σ3:=L3a D R (List.replicate (i+1) spD++docsG (R.drop (i+1))) R.length (i+1)) (by clear nx ih;exact Ih_z1)) nx
theorem loop3b (D R:List GDoc):∀ (q i:Nat) (els:List AV),8 - i=q->i<=8->els.length+q<=2 ^ 40->cloL els=true->LoopC Tryz.prog W [] (nslots Tryz.prog 3) (loopOf Tryz.prog 3 2) (L3b D R els i) (.exit 4) (L3f D R):=by
 intro q
 induction q with
 | zero =>
  intro i els hq hi hl hclo
  exact loop_last (by simp) (body_of_sbodyK mixedz (b3b_1 W D R els i) Ih_z2 [] [] Ih_z1)
 | succ q ih =>
  intro i els hq hi hl hc
  have hws:IntKind.i64.wrap ((i:Int)+1)=((i+1:Nat):Int):=wrap_succ (by omega)
  have hclo:cloL (els++[grD])=true:=by rw [clo_append,hc];rfl
  have hgl:els.length+[grD].length=(els++[grD]).length:=by rw [List.length_append]
  have nx:=ih (i+1) (els++[grD]) (by omega) (by omega) (by simp only [List.length_append,List.length_cons,List.length_nil];omega) hclo
  have hset:List.take els.length els++[grD]=els++[grD]:=by rw [List.take_length]
  have hb:(els.length+[grD].length) * 104<=140737488355328:=by show (els.length+1) * 104<=_;omega
  exact loop_next (body_of_sbodyK mixedz (b3b_0 W D R els i) (by clear nx ih;exact Ih_z2) [(100010,100012)] [] (σ3:=L3b D R (els++[grD]) (i+1)) (by clear nx ih;exact Ih_z1)) nx
def X3 (D:List GDoc):List AV:=List.take (0+(docsG D).length) ([]++docsG D)++[BEHD]
theorem X3_eq (D:List GDoc):X3 D=docsG D++[BEHD]:=by unfold X3;rw [List.nil_append,Nat.zero_add,List.take_length]
theorem X3_clo (D:List GDoc):cloL (X3 D)=true:=by rw [X3_eq,clo_append,gdocs_clo];rfl
theorem frz3 (KK:KS) (D:List GDoc):FrzTo [] ⟨[(1,sL 7 (docsG D)),(5,sortA KK),(7,sL 2 (rksA KK)),(10,.gs 100003 0 (0+(docsG D).length+[BEHD].length))],[(100000,.dead),(100001,.dead),(100002,.arr 40 7 [BEHD] .own),(100003,.arr 40 7 (X3 D) .own)]⟩ [(100003,.arr 40 7 (X3 D) .own)] [] [] (Z3 KK D):=by
 refine ⟨⟨X3_clo D,trivial⟩,⟨[(1,sL 7 (docsG D)),(5,sortA KK),(7,sL 2 (rksA KK)),(10,sL 7 (docsG D++[BEHD]))],frzL [(100003,.arr 40 7 (X3 D) .own)] [(100000,.dead),(100001,.dead),(100002,.arr 40 7 [BEHD] .own),(100003,.arr 40 7 (X3 D) .own)]⟩,?_,?_⟩
 ·unfold AS.frz
  congr 1
  simp [clT,clA,lk,X3_eq,sortA]
  rw [List.take_of_length_le (by simp)]
 ·have hclo:cloL (docsG D++[BEHD])=true:=by rw [clo_append,gdocs_clo];rfl
  exact Ih_z1
theorem docs17M (R:List GDoc) (hR:∀ x ∈ R.map GDoc.doc,okV x.v) (hl:R.length<=2 ^ 40):MutC Tryz.prog W 17 [.gs 100010 0 R.length,.sl 7 (docsG R) []] [(100010,.arr 40 7 (docsG R) .own)] (.ret (bA true) [(100010,.arr 40 7 (docsG R) .own)]):=by
 have hlo:=gdocs_len R
 have e:clL [(100010,.arr 40 7 (docsG R) .own)] [.gs 100010 0 R.length,.sl 7 (docsG R) []]=[.sl 7 (docsG R) [],.sl 7 (docsG R) []]:=by
  have e1:List.take R.length (docsG R)=docsG R:=by rw [<-hlo,List.take_length]
  simp [clL,clA,lk,hlo,e1]
 have h17:=docs17 W (R.map GDoc.doc) hR (by rw [List.length_map];exact hl)
 rw [docsG_eq] at h17
 refine mut_of_pureFlat ?_ rfl (by rw [e];simp only [cloL,gdocs_clo,AV.clo,Bool.and_self]) rfl (by rw [e];exact h17)
 intro p hp
 simp only [List.mem_cons,List.not_mem_nil,or_false] at hp
 subst hp
 exact ⟨by simp [hg],gdocs_clo _⟩
theorem large7M (v:JV) (b:Bool) (h:Pure Tryz.prog W 7 [.sl 5 [encV v] []] (bA b)):MutC Tryz.prog W 7 [.gs 100001 0 1] [(100001,.arr 25 5 [encV v] .own)] (.ret (bA b) [(100001,.arr 25 5 [encV v] .own)]):=by
 refine mut_of_pureFlat ?_ rfl (by simp [clL,clA,lk,cloL,AV.clo,encV_clo]) rfl (by simpa [clL,clA,lk] using h)
 intro p hp
 simp only [List.mem_cons,List.not_mem_nil,or_false] at hp
 subst hp
 exact ⟨by simp [hg],by show cloL [encV v]=true;simp only [cloL,encV_clo,Bool.and_self]⟩
theorem orders3 (v:JV) (D:List Doc) (hok:okV v) (hN:∀ s ∈ v.names,s.length<=2 ^ 30) (hD:∀ x ∈ D,okV x.v) (ht:∀ x ∈ D,tnV x.v) (hl:D.length<=2 ^ 41):Pure Tryz.prog W 3 [encV v,.sl 7 (docsA D) []] (bA true):=by
 have h9:MutC Tryz.prog W 9 [] [] (.ret (bA true) []):=mut_of_pure rfl (live9 W)
 obtain ⟨b,hb7,hcv⟩:=large7 W v hok
 have hM7:=large7M W v b hb7
 obtain ⟨b2,hb8,hcd⟩:=manyC W D hD (by omega)
 have h8:MutC Tryz.prog W 8 [.sl 7 (docsA D) []] [] (.ret (bA b2) []):=mut_of_pure (by simp [cloL,AV.clo,docs_clo]) hb8
 have h10:=mut_of_pure (by simp only [cloL,encV_clo,Bool.and_self]) (parse10 W v hN)
 have h11:=mut_of_pure (by simp only [cloL,encV_clo,Bool.and_self]) (parse11 W v hN)
 have hd0:=docs_len D
 cases b with
 | true =>
  clear hN hD ht hcv hcd
  obtain ⟨h,l⟩:=v
  exact pure_of_mut rfl (mut_of_sfun mixedz call3 rfl (p3g_0 W D h l true) Ii_z2)
 | false =>
 cases b2 with
 | true =>
  clear hN hD ht hcv hcd
  obtain ⟨h,l⟩:=v
  exact pure_of_mut rfl (mut_of_sfun mixedz call3 rfl (p3g_1 W D h l false true) Ii_z2)
 | false =>
 obtain ⟨h150,hdc⟩:=hcd rfl
 cases hp:prsV v with
 | error e =>
  have he:=prs_pos hp
  rw [hp] at h10 h11
  have h10':MutC Tryz.prog W 10 [encV v] [] (.ret (.tup [.val (.pointer none),iA e]) []):=h10
  have h11':MutC Tryz.prog W 11 [encV v] [] (.ret (.tup [.val (.slice none 0 0),iA e]) []):=h11
  clear hN hD ht hcv hcd h10 h11
  have c1:(!decide (e=0))=true:=by rw [decide_eq_false he];rfl
  have c2:(!decide (e=e))=false:=by rw [decide_eq_true rfl];rfl
  obtain ⟨h,l⟩:=v
  exact pure_of_mut rfl (mut_of_sfun mixedz call3 rfl (p3e_1 W D h l e) Ii_z2)
 | ok KK =>
  have hK8:=prs_len hp
  rw [hp] at h10 h11
  have h10':MutC Tryz.prog W 10 [encV v] [] (.ret (.tup [sortA KK,iA 0]) []):=h10
  have h11':MutC Tryz.prog W 11 [encV v] [] (.ret (.tup [.sl 2 (rksA KK) [],iA 0]) []):=h11
  have hG:∀ d ∈ D,GV d.v:=fun d hd=>⟨by have:=dcnt_mem hd;omega,ht d hd⟩
  obtain ⟨E,hE⟩:=lift_docs D hG
  subst hE
  rw [List.length_map] at h150
  rw [docsG_eq] at h8 ⊢
  have hRl:=sort_len (lt:=gLt KK) E
  have hRok:∀ x ∈ (sortS (gLt KK) E).map GDoc.doc,okV x.v:=fun x hx=>by
   obtain ⟨y,hy,rfl⟩:=List.mem_map.1 hx
   exact hD _ (List.mem_map.2 ⟨y,(sort_mem E y).1 hy,rfl⟩)
  have h15:=gorder15M W KK (by omega) E (by omega)
  have h16:=mut_of_pure (by simp only [cloL,rks_clo,gdocs_clo,AV.clo,Bool.and_self]) (gorder16 W KK (by omega) E (by omega))
  have h15p:=mut_of_pure (by simp only [sortA,cloL,kys_clo,gdocs_clo,AV.clo,Bool.and_self]) (gorder15 W KK (by omega) E (by omega))
  have h17R:MutC Tryz.prog W 17 [.sl 7 (docsG (sortS (gLt KK) E)) [],.sl 7 (docsG (sortS (gLt KK) E)) []] [] (.ret (bA true) []):=by
   have:=docs17 W ((sortS (gLt KK) E).map GDoc.doc) hRok (by rw [List.length_map];omega)
   rw [docsG_eq] at this
   exact mut_of_pure (by simp only [cloL,gdocs_clo,AV.clo,Bool.and_self]) this
  have h17M:=docs17M W (sortS (gLt KK) E) hRok (by omega)
  have h17D:MutC Tryz.prog W 17 [.sl 7 (docsG E) [BEHD],.sl 7 (docsG E) []] [] (.ret (bA true) []):=by
   have:=docs17 W (E.map GDoc.doc) hD (by rw [List.length_map];omega)
   rw [docsG_eq] at this
   exact mut_of_pure (by simp only [cloL,gdocs_clo,AV.clo,Bool.and_self]<;>rfl) (pure_rest1 [BEHD] this)
  have l3:=loop3 W KK (by omega) E (by omega) E.length 0 rfl (by omega)
  have l3a:=loop3a W E (sortS (gLt KK) E) (by omega) (sortS (gLt KK) E).length 0 rfl (by omega)
  have l3b:=loop3b W E (sortS (gLt KK) E) 8 0 (List.replicate (sortS (gLt KK) E).length spD) rfl (by omega) (by rw [List.length_replicate];omega) (repl_clo spD rfl _)
  have hclo:=repl_clo spD rfl (sortS (gLt KK) E).length
  have hrl:(List.replicate (sortS (gLt KK) E).length spD).length=(sortS (gLt KK) E).length:=List.length_replicate
  have hfz:=frz3 KK E
  have hdl:=gdocs_len E
  clear hN hD ht hcv hcd h10 h11 hG hRok
  generalize sortS (gLt KK) E=R at *
  have h15b:=mut_match (r2:=.gs 100010 0 R.length) (h2:=[(100010,.arr 40 7 (docsG R) .own)]) [(100010,100001)] [] h15 Ih_z1
  have h15c:=mut_rest [BEHD] h15b
  have h15d:=mut_rest [BEHD] h15p
  have e1:List.replicate 0 spD++docsG (R.drop 0)=docsG R:=rfl
  rw [e1] at l3a
  have q1:List.drop 0 (List.take (((docsG E).length:Int)).toNat (docsG E++[BEHD]++[]))=docsG E:=by
   rw [List.drop_zero,Int.toNat_natCast,List.append_nil,List.take_left]
  have q2:List.drop (((docsG E).length:Int)).toNat (docsG E++[BEHD]++[])=[BEHD]:=by
   rw [Int.toNat_natCast,List.append_nil,List.drop_left]
  obtain ⟨h,l⟩:=v
  have hb:=p3_0 W KK E R h l (List.replicate R.length spD) R.length
  rw [q1,q2] at hb
  have hgl:R.length=(List.replicate R.length spD).length:=hrl.symm
  have hset:List.replicate R.length spD=List.replicate R.length spD:=rfl
  have hbe:(docsG E++[BEHD])[(((docsG E).length:Int)).toNat]?=some BEHD:=by
   rw [Int.toNat_natCast];exact get_mid rfl
  have hb1:(0+(docsG E).length+[BEHD].length) * 104<=140737488355328:=by show (0+(docsG E).length+1) * 104<=_;omega
  have hb2:(docsG E++[BEHD]).length=E.length+1:=by rw [List.length_append,hdl];rfl
  have hgl3:0+(docsG E).length=([]++docsG E).length:=by rw [List.nil_append,Nat.zero_add]
  exact pure_of_mut rfl (mut_of_sfun mixedz call3 rfl hb (by clear hb;exact Ii_z2))
end
end De
end Go.Ac

