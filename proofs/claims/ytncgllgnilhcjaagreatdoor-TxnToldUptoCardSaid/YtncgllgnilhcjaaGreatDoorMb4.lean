/- What is proved: contracts of functions of this translation, walked; their plain meaning. No condition beyond those that each theorem names. -/
import Derived.Test.YtncgllgnilhcjaaGreatDoorMb3
import Derived.Test.YtncgllgnilhcjaaGreatDoorMa5
set_option linter.all false
namespace Go.Ac
open Go Go.Proofs
set_option maxRecDepth 10000
set_option maxHeartbeats 1000000
theorem p62_0 (W:World) (ps:List (List (List UInt8))) (w:Bool) (s:List UInt8) (ot:List (List (List UInt8))):sF W {lp:=true,ol:=true,fin:=9,tl:=[]} 62 [.sl 1 (ppA ps) [],.str s] [] 100000 [ee,.loopM [] [(100000,1)] (S62 ps [] s false 0) (.exit 0) (E62 ot w),ee,.fin [] [] (.tup [.gs 100000 0 ot.length,bA w]) [(100000,.arr 22 1 (ppA ot) .own)],ee] []=.ok (.ret (.tup [.gs 100000 0 ot.length,bA w]) [(100000,.arr 22 1 (ppA ot) .own)],[ee],[MatchK [] [] [] {t:=[(0,.tup [.gs 100000 0 ot.length,bA w])],h:=[(100000,.arr 22 1 (ppA ot) .own)]} {t:=[(0,.tup [.gs 100000 0 ot.length,bA w])],h:=[(100000,.arr 22 1 (ppA ot) .own)]},LZ W [] 62 0 (S62 ps [] s false 0) (.exit 0) (E62 ot w),MatchK [] [] [(100000,1)] {t:=[(0,sL 1 (ppA ps)),(1,.str s),(6,.val (Value.slice none 0 0)),(7,bA false),(8,iA 0)],h:=[]} (S62 ps [] s false 0)]):=kr
theorem p61_0 (W:World) (hx:JH) (k:List JV):sF W {lp:=true,ol:=true,tl:=[]} 61 [eV hx k] [] 100000 [bt,bt,bt,bt,ee] []=.ok (.ret (bA true) [],[ee],d4 (decide (hx.kind=6)=true) []):=kr
theorem p61_1 (W:World) (hx:JH) (k:List JV):sF W {lp:=true,ol:=true,tl:=[]} 61 [eV hx k] [] 100000 [bf,bf,bf,bf,ee] []=.ok (.ret (bA (decide (hx.kind=5))) [],[ee],d4 (decide (hx.kind=6)=false) []):=kr
theorem p40_1 (W:World) (h:JH) (l out:List JV) (ps:List (List (List UInt8))) (b dp:Bool):sF W {lp:=true,ol:=true,fin:=9,tl:=[61]} 40 [fA ps b,eV h l] [] 100000 [bf,bf,ee,.lg,ee,cR (bA dp) [],bf,bf,bf,bt,ee,.loopM [] [(100004,5)] (L40 ps b h l [] 0) (.exit 0) (E40 h out),ee,.fin [] [] (.agg [iA h.kind,iA 0,.str [],.val (Value.slice none 0 0),.gs 100004 0 out.length]) [(100004,.arr 25 5 (encVs out) .own)],ee] []=.ok (.ret (.agg [iA h.kind,iA 0,.str [],.val (Value.slice none 0 0),.gs 100004 0 out.length]) [(100004,.arr 25 5 (encVs out) .own)],[ee],MatchK [] [] [] {t:=[(0,.agg [iA h.kind,iA 0,.str [],.val (Value.slice none 0 0),.gs 100004 0 out.length])],h:=[(100002,gB (.agg [iA h.kind,iA 0,.str [],.val (Value.slice none 0 0),.gs 100004 0 out.length])),(100003,gB (.agg [iA h.kind,iA 0,.str [],.val (Value.slice none 0 0),.gs 100004 0 out.length])),(100004,.arr 25 5 (encVs out) .own)]} {t:=[(0,.agg [iA h.kind,iA 0,.str [],.val (Value.slice none 0 0),.gs 100004 0 out.length])],h:=[(100004,.arr 25 5 (encVs out) .own)]}::LZ W [] 40 0 (L40 ps b h l [] 0) (.exit 0) (E40 h out)::MatchK [] [] [(100004,5)] {t:=[(2,.gp 100000 0),(3,.gp 100001 0),(4,.gp 100002 0),(5,.gp 100003 0),(6,iA 0)],h:=[(100000,gB (.agg [sL 1 (ppA ps),bA b])),(100001,gB (eV h l)),(100002,gB (.agg [iA 0,iA 0,.str [],.val (Value.slice none 0 0),.val (Value.slice none 0 0)])),(100003,gB (.agg [iA h.kind,iA 0,.str [],.val (Value.slice none 0 0),.val (Value.slice none 0 0)]))]} (L40 ps b h l [] 0)::(decide (h.kind=5)=true)::((!dp)=false)::(d2 (decide ((↑(ppA ps).length:Int)=0)=false) (MZ W 61 [eV h l] [] (.ret (bA dp) [])::cloHs []::(d2 (decide ((↑(ppA ps).length:Int)=0)=false) [])))):=kr
theorem p40o_1 (W:World) (h:JH) (l out:List JV) (ps:List (List (List UInt8))) (ns:List (List UInt8)) (b dp:Bool):sF W {lp:=true,ol:=true,fin:=9,tl:=[61]} 40 [fA ps b,eV h l] [] 100000 [bf,bf,ee,.lg,ee,cR (bA dp) [],bf,bf,bf,bf,ee,.loopM [] [(100004,1),(100005,5)] (O40 ps b h l [] [] 0) (.exit 2) (E40o h ns out),ee,.fin [] [] (.agg [iA h.kind,iA 0,.str [],.gs 100004 0 ns.length,.gs 100005 0 out.length]) [(100004,.arr 9 1 (List.map AV.str ns) .own),(100005,.arr 25 5 (encVs out) .own)],ee] []=.ok (.ret (.agg [iA h.kind,iA 0,.str [],.gs 100004 0 ns.length,.gs 100005 0 out.length]) [(100004,.arr 9 1 (List.map AV.str ns) .own),(100005,.arr 25 5 (encVs out) .own)],[ee],MatchK [] [] [] {t:=[(0,.agg [iA h.kind,iA 0,.str [],.gs 100004 0 ns.length,.gs 100005 0 out.length])],h:=[(100002,gB (.agg [iA h.kind,iA 0,.str [],.gs 100004 0 ns.length,.gs 100005 0 out.length])),(100003,gB (.agg [iA h.kind,iA 0,.str [],.gs 100004 0 ns.length,.gs 100005 0 out.length])),(100004,.arr 9 1 (List.map AV.str ns) .own),(100005,.arr 25 5 (encVs out) .own)]} {t:=[(0,.agg [iA h.kind,iA 0,.str [],.gs 100004 0 ns.length,.gs 100005 0 out.length])],h:=[(100004,.arr 9 1 (List.map AV.str ns) .own),(100005,.arr 25 5 (encVs out) .own)]}::LZ W [] 40 1 (O40 ps b h l [] [] 0) (.exit 2) (E40o h ns out)::MatchK [] [] [(100004,1),(100005,5)] {t:=[(2,.gp 100000 0),(3,.gp 100001 0),(4,.gp 100002 0),(5,.gp 100003 0),(7,iA 0)],h:=[(100000,gB (.agg [sL 1 (ppA ps),bA b])),(100001,gB (eV h l)),(100002,gB (.agg [iA 0,iA 0,.str [],.val (Value.slice none 0 0),.val (Value.slice none 0 0)])),(100003,gB (.agg [iA h.kind,iA 0,.str [],.val (Value.slice none 0 0),.val (Value.slice none 0 0)]))]} (O40 ps b h l [] [] 0)::(decide (h.kind=5)=false)::((!dp)=false)::(d2 (decide ((↑(ppA ps).length:Int)=0)=false) (MZ W 61 [eV h l] [] (.ret (bA dp) [])::cloHs []::(d2 (decide ((↑(ppA ps).length:Int)=0)=false) [])))):=kr
theorem q40_0 (W:World) (h:JH) (l:List JV) (ps:List (List (List UInt8))) (b dp:Bool):sF W {lp:=true,ol:=true,tl:=[61]} 40 [fA ps b,eV h l] [] 100000 [bf,bf,ee,.lg,ee,cR (bA dp) [],bf,bf,bt,ee] []=.ok (.ret (eV h l) [],[ee],((!dp)=true)::(d2 (decide ((↑(ppA ps).length:Int)=0)=false) (MZ W 61 [eV h l] [] (.ret (bA dp) [])::cloHs []::(d2 (decide ((↑(ppA ps).length:Int)=0)=false) [])))):=kr
theorem r40_0 (W:World) (h:JH) (l:List JV) (ps:List (List (List UInt8))) (b:Bool):sF W {lp:=true,ol:=true,tl:=[61]} 40 [fA ps b,eV h l] [] 100000 [bt,bt,bt,bt,ee] []=.ok (.ret (eV h l) [],[aE 9999999],d4 (decide ((↑(ppA ps).length:Int)=0)=true) []):=kr
theorem b62e_1 (W:World) (ps:List (List (List UInt8))) (w:Bool) (i:Nat) (s x:List UInt8) (p:List (List UInt8)) (ot:List (List (List UInt8))):sQ W {lp:=true,ol:=true,tl:=[]} 62 0 [] [0,1,6,7,8] (S62 ps ot s w i) [bt,aE 1,oS (sL 1 (List.map AV.str p)),aE 1,oS (.str x),bt,bt,bt,aE 1,oS (sL 1 (List.map AV.str p)),bt,bt,bt,bt,bt,aE 1,oS (sL 1 (List.map AV.str p)),aE 1,oS (.str x),bt,bt,bt,aE 1,oS (sL 1 (List.map AV.str p)),bt,bt,bt,bt,bf,ee]=.ok ((.normal,{t:=[(0,sL 1 (ppA ps)),(1,.str s),(6,.gs 100000 0 ot.length),(7,bA true),(8,iA (IntKind.i64.wrap ((i:Int)+1)))],h:=[(100000,.arr 22 1 (ppA ot) .own)]}),[ee],(decide (1<(↑(List.map AV.str p).length:Int))=false)::(d4 (decide (x=s)=true) (((ppA ps)[(i:Int).toNat]?=some (sL 1 (List.map AV.str p)))::(d3 (decide (x=s)=true) (((List.map AV.str p)[0]?=some (AV.str x))::((ppA ps)[(i:Int).toNat]?=some (sL 1 (List.map AV.str p)))::(decide ((↑(List.map AV.str p).length:Int)=1)=true)::(d4 (decide (x=s)=true) (((ppA ps)[(i:Int).toNat]?=some (sL 1 (List.map AV.str p)))::(d3 (decide (x=s)=true) [(List.map AV.str p)[0]?=some (AV.str x),(ppA ps)[(i:Int).toNat]?=some (sL 1 (List.map AV.str p)),decide ((i:Int)<(↑(ppA ps).length:Int))=true])))))))):=kr
theorem b62e_2 (W:World) (ps:List (List (List UInt8))) (w:Bool) (i:Nat) (s x:List UInt8) (p:List (List UInt8)) (ot:List (List (List UInt8))):sQ W {lp:=true,ol:=true,tl:=[]} 62 0 [] [0,1,6,7,8] (S62 ps ot s w i) [bt,aE 1,oS (sL 1 (List.map AV.str p)),aE 1,oS (.str x),bt,bt,bt,aE 1,oS (sL 1 (List.map AV.str p)),bt,bt,bt,bt,bf,aE 1,oS (sL 1 (List.map AV.str p)),aE 1,oS (.str x),bt,bt,bt,aE 1,oS (sL 1 (List.map AV.str p)),bt,bt,bt,bt,bt,aE 1,oS (sL 1 (List.map AV.str p)),aE 1,.lg,aE 1,.lg,.lg,ee]=.ok ((.normal,{t:=[(0,sL 1 (ppA ps)),(1,.str s),(6,.gs 100002 0 (ot.length+[AV.sl 1 (List.drop 1 (List.take (↑(defLen (sL 1 (List.map AV.str p))):Int).toNat (List.map AV.str p++[]))) (List.drop (↑(defLen (sL 1 (List.map AV.str p))):Int).toNat (List.map AV.str p++[]))].length)),(7,bA w),(8,iA (IntKind.i64.wrap ((i:Int)+1)))],h:=[(100000,.dead),(100001,.arr 22 1 [AV.sl 1 (List.drop 1 (List.take (↑(defLen (sL 1 (List.map AV.str p))):Int).toNat (List.map AV.str p++[]))) (List.drop (↑(defLen (sL 1 (List.map AV.str p))):Int).toNat (List.map AV.str p++[]))] .own),(100002,.arr 22 1 (List.take ot.length (ppA ot)++[AV.sl 1 (List.drop 1 (List.take (↑(defLen (sL 1 (List.map AV.str p))):Int).toNat (List.map AV.str p++[]))) (List.drop (↑(defLen (sL 1 (List.map AV.str p))):Int).toNat (List.map AV.str p++[]))]) .own)]}),[ee],((ot.length+[AV.sl 1 (List.drop 1 (List.take (↑(defLen (sL 1 (List.map AV.str p))):Int).toNat (List.map AV.str p++[]))) (List.drop (↑(defLen (sL 1 (List.map AV.str p))):Int).toNat (List.map AV.str p++[]))].length) * 24<=140737488355328)::((St.own=St.own\/St.own=St.shr/\ot.length=(ppA ot).length)/\ot.length<=(ppA ot).length)::(1<=(↑(defLen (sL 1 (List.map AV.str p))):Int)/\(↑(defLen (sL 1 (List.map AV.str p))):Int)<=(↑(List.map AV.str p).length:Int)+0)::((ppA ps)[(i:Int).toNat]?=some (sL 1 (List.map AV.str p)))::(decide (1<(↑(List.map AV.str p).length:Int))=true)::(d4 (decide (x=s)=true) (((ppA ps)[(i:Int).toNat]?=some (sL 1 (List.map AV.str p)))::(d3 (decide (x=s)=true) (((List.map AV.str p)[0]?=some (AV.str x))::((ppA ps)[(i:Int).toNat]?=some (sL 1 (List.map AV.str p)))::(decide ((↑(List.map AV.str p).length:Int)=1)=false)::(d4 (decide (x=s)=true) (((ppA ps)[(i:Int).toNat]?=some (sL 1 (List.map AV.str p)))::(d3 (decide (x=s)=true) [(List.map AV.str p)[0]?=some (AV.str x),(ppA ps)[(i:Int).toNat]?=some (sL 1 (List.map AV.str p)),decide ((i:Int)<(↑(ppA ps).length:Int))=true])))))))):=kr
theorem b62e_4 (W:World) (ps:List (List (List UInt8))) (w:Bool) (i:Nat) (s:List UInt8) (ot:List (List (List UInt8))):sQ W {lp:=true,ol:=true,tl:=[]} 62 0 [] [0,1,6,7,8] (S62 ps ot s w i) [bf,ee]=.ok ((.exit 0,{t:=[(0,sL 1 (ppA ps)),(1,.str s),(6,.gs 100000 0 ot.length),(7,bA w),(8,iA (i:Int))],h:=[(100000,.arr 22 1 (ppA ot) .own)]}),[ee],[decide ((i:Int)<(↑(ppA ps).length:Int))=false]):=kr
theorem b62n_0 (W:World) (ps:List (List (List UInt8))) (w:Bool) (i:Nat) (s x:List UInt8) (p:List (List UInt8)) (ot:List (List (List UInt8))):sQ W {lp:=true,ol:=true,tl:=[]} 62 0 [] [0,1,6,7,8] (S62 ps ot s w i) [bt,aE 1,oS (sL 1 (List.map AV.str p)),aE 1,oS (.str x),bf,bf,bf,bf,bf,bf,bf,aE 2,oS (sL 1 (List.map AV.str p)),aE 1,oS (.str x),bf,bf,bf,bf,bf,bf,bf,ee]=.ok ((.normal,{t:=[(0,sL 1 (ppA ps)),(1,.str s),(6,.gs 100000 0 ot.length),(7,bA w),(8,iA (IntKind.i64.wrap ((i:Int)+1)))],h:=[(100000,.arr 22 1 (ppA ot) .own)]}),[aE 9999999],(decide (x=s)=false)::(d6 (decide (x=s)=false) (((List.map AV.str p)[0]?=some (AV.str x))::((ppA ps)[(i:Int).toNat]?=some (sL 1 (List.map AV.str p)))::(decide (x=s)=false)::(d6 (decide (x=s)=false) [(List.map AV.str p)[0]?=some (AV.str x),(ppA ps)[(i:Int).toNat]?=some (sL 1 (List.map AV.str p)),decide ((i:Int)<(↑(ppA ps).length:Int))=true])))):=kr
theorem b40l_0 (W:World) (h hx hy:JH) (l k y out:List JV) (ps:List (List (List UInt8))) (b dp:Bool) (i:Nat):sQ W {lp:=true,ol:=true,tl:=[61,40]} 40 0 [] [2,3,4,5,6] (L40 ps b h l out i) [bt,aE 1,oS (eV hx k),ee,.lg,ee,cR (bA dp) [],bt,bt,bt,bt,aE 2,oS (eV hx k),ee,.lg,ee,cR (eV hy y) [],aE 1,.lg,.lg,ee]=.ok ((.normal,{t:=[(2,.gp 100000 0),(3,.gp 100001 0),(4,.gp 100002 0),(5,.gp 100003 0),(6,iA (IntKind.i64.wrap ((i:Int)+1)))],h:=[(100000,gB (.agg [sL 1 (ppA ps),bA b])),(100001,gB (eV h l)),(100002,gB (.agg [iA 0,iA 0,.str [],.val (Value.slice none 0 0),.val (Value.slice none 0 0)])),(100003,gB (.agg [iA h.kind,iA 0,.str [],.val (Value.slice none 0 0),.gs 100006 0 (out.length+[eV hy y].length)])),(100004,.dead),(100005,.arr 25 5 [eV hy y] .own),(100006,.arr 25 5 (List.take out.length (encVs out)++[eV hy y]) .own)]}),[ee],[(out.length+[eV hy y].length) * 80<=140737488355328,(St.own=St.own\/St.own=St.shr/\out.length=(encVs out).length)/\out.length<=(encVs out).length,MZ W 40 [.agg [sL 1 (ppA ps),bA b],eV hx k] [] (.ret (eV hy y) []),cloHs [],(encVs l)[(i:Int).toNat]?=some (eV hx k),dp=true,dp=true,dp=true,dp=true,MZ W 61 [eV hx k] [] (.ret (bA dp) []),cloHs [],(encVs l)[(i:Int).toNat]?=some (eV hx k),decide ((i:Int)<(↑(encVs l).length:Int))=true]):=kr
theorem b40l_1 (W:World) (h hx hy:JH) (l k y out:List JV) (ps:List (List (List UInt8))) (b dp:Bool) (i:Nat):sQ W {lp:=true,ol:=true,tl:=[61,40]} 40 0 [] [2,3,4,5,6] (L40 ps b h l out i) [bt,aE 1,oS (eV hx k),ee,.lg,ee,cR (bA dp) [],bf,bf,bf,bf,bt,aE 1,oS (eV hx k),ee,.lg,ee,cR (eV hy y) [],aE 1,.lg,.lg,ee]=.ok ((.normal,{t:=[(2,.gp 100000 0),(3,.gp 100001 0),(4,.gp 100002 0),(5,.gp 100003 0),(6,iA (IntKind.i64.wrap ((i:Int)+1)))],h:=[(100000,gB (.agg [sL 1 (ppA ps),bA b])),(100001,gB (eV h l)),(100002,gB (.agg [iA 0,iA 0,.str [],.val (Value.slice none 0 0),.val (Value.slice none 0 0)])),(100003,gB (.agg [iA h.kind,iA 0,.str [],.val (Value.slice none 0 0),.gs 100006 0 (out.length+[eV hy y].length)])),(100004,.dead),(100005,.arr 25 5 [eV hy y] .own),(100006,.arr 25 5 (List.take out.length (encVs out)++[eV hy y]) .own)]}),[ee],[(out.length+[eV hy y].length) * 80<=140737488355328,(St.own=St.own\/St.own=St.shr/\out.length=(encVs out).length)/\out.length<=(encVs out).length,MZ W 40 [.agg [sL 1 (ppA ps),bA b],eV hx k] [] (.ret (eV hy y) []),cloHs [],(encVs l)[(i:Int).toNat]?=some (eV hx k),(!b)=true,dp=false,dp=false,dp=false,dp=false,MZ W 61 [eV hx k] [] (.ret (bA dp) []),cloHs [],(encVs l)[(i:Int).toNat]?=some (eV hx k),decide ((i:Int)<(↑(encVs l).length:Int))=true]):=kr
theorem b40l_2 (W:World) (h hx:JH) (l k out:List JV) (ps:List (List (List UInt8))) (b dp:Bool) (i:Nat):sQ W {lp:=true,ol:=true,tl:=[61,40]} 40 0 [] [2,3,4,5,6] (L40 ps b h l out i) [bt,aE 1,oS (eV hx k),ee,.lg,ee,cR (bA dp) [],bf,bf,bf,bf,bf,ee]=.ok ((.normal,{t:=[(2,.gp 100000 0),(3,.gp 100001 0),(4,.gp 100002 0),(5,.gp 100003 0),(6,iA (IntKind.i64.wrap ((i:Int)+1)))],h:=[(100000,gB (.agg [sL 1 (ppA ps),bA b])),(100001,gB (eV h l)),(100002,gB (.agg [iA 0,iA 0,.str [],.val (Value.slice none 0 0),.val (Value.slice none 0 0)])),(100003,gB (.agg [iA h.kind,iA 0,.str [],.val (Value.slice none 0 0),.gs 100004 0 out.length])),(100004,.arr 25 5 (encVs out) .own)]}),[ee],[(!b)=false,dp=false,dp=false,dp=false,dp=false,MZ W 61 [eV hx k] [] (.ret (bA dp) []),cloHs [],(encVs l)[(i:Int).toNat]?=some (eV hx k),decide ((i:Int)<(↑(encVs l).length:Int))=true]):=kr
theorem b40l_3 (W:World) (h:JH) (l out:List JV) (ps:List (List (List UInt8))) (b:Bool) (i:Nat):sQ W {lp:=true,ol:=true,tl:=[61,40]} 40 0 [] [2,3,4,5,6] (L40 ps b h l out i) [bf,ee]=.ok ((.exit 0,{t:=[(2,.gp 100000 0),(3,.gp 100001 0),(4,.gp 100002 0),(5,.gp 100003 0),(6,iA (i:Int))],h:=[(100000,gB (.agg [sL 1 (ppA ps),bA b])),(100001,gB (eV h l)),(100002,gB (.agg [iA 0,iA 0,.str [],.val (Value.slice none 0 0),.val (Value.slice none 0 0)])),(100003,gB (.agg [iA h.kind,iA 0,.str [],.val (Value.slice none 0 0),.gs 100004 0 out.length])),(100004,.arr 25 5 (encVs out) .own)]}),[ee],[decide ((i:Int)<(↑(encVs l).length:Int))=false]):=kr
theorem b40o_ttet_0 (W:World) (h hx:JH) (l k out:List JV) (ps:List (List (List UInt8))) (ns:List (List UInt8)) (n:Int) (i:Nat) (s:List UInt8):sQ W {lp:=true,ol:=true,tl:=[57,62,61,40]} 40 1 [] [2,3,4,5,7] (O40 ps true h l ns out i) [ee,.lg,ee,cR (iA n) [],bt,aE 1,oS (.str s),ee,.lg,ee,cR (.tup [sL 1 (ppA []),bA true]) [],aE 1,oS (eV hx k),aE 10,oS (.str s),aE 1,.lg,.lg,aE 1,.lg,.lg,ee]=.ok ((.normal,{t:=[(2,.gp 100000 0),(3,.gp 100001 0),(4,.gp 100002 0),(5,.gp 100003 0),(7,iA (IntKind.i64.wrap ((i:Int)+1)))],h:=[(100000,gB (.agg [sL 1 (ppA ps),bA true])),(100001,gB (eV h l)),(100002,gB (.agg [iA 0,iA 0,.str [],.val (Value.slice none 0 0),.val (Value.slice none 0 0)])),(100003,gB (.agg [iA h.kind,iA 0,.str [],.gs 100008 0 (ns.length+[AV.str s].length),.gs 100010 0 (out.length+[eV hx k].length)])),(100004,.dead),(100005,.dead),(100006,gB (eV hx k)),(100007,.arr 9 1 [.str s] .own),(100008,.arr 9 1 (List.take ns.length (List.map AV.str ns)++[AV.str s]) .own),(100009,.arr 25 5 [eV hx k] .own),(100010,.arr 25 5 (List.take out.length (encVs out)++[eV hx k]) .own)]}),[ee],[(out.length+[eV hx k].length) * 80<=140737488355328,(St.own=St.own\/St.own=St.shr/\out.length=(encVs out).length)/\out.length<=(encVs out).length,(ns.length+[AV.str s].length) * 16<=140737488355328,(St.own=St.own\/St.own=St.shr/\ns.length=(List.map AV.str ns).length)/\ns.length<=(List.map AV.str ns).length,(List.map AV.str h.names)[(i:Int).toNat]?=some (AV.str s),(encVs l)[(i:Int).toNat]?=some (eV hx k),MZ W 62 [sL 1 (ppA ps),.str s] [] (.ret (.tup [sL 1 [],bA true]) []),cloHs [],(List.map AV.str h.names)[(i:Int).toNat]?=some (AV.str s),decide ((i:Int)<n)=true,MZ W 57 [eV h l] [] (.ret (iA n) []),cloHs []]):=kr
theorem b40o_tfet_0 (W:World) (h hx:JH) (l k out:List JV) (ps:List (List (List UInt8))) (ns:List (List UInt8)) (n:Int) (i:Nat) (s:List UInt8):sQ W {lp:=true,ol:=true,tl:=[57,62,61,40]} 40 1 [] [2,3,4,5,7] (O40 ps true h l ns out i) [ee,.lg,ee,cR (iA n) [],bt,aE 1,oS (.str s),ee,.lg,ee,cR (.tup [sL 1 (ppA []),bA false]) [],aE 1,oS (eV hx k),ee]=.ok ((.normal,{t:=[(2,.gp 100000 0),(3,.gp 100001 0),(4,.gp 100002 0),(5,.gp 100003 0),(7,iA (IntKind.i64.wrap ((i:Int)+1)))],h:=[(100000,gB (.agg [sL 1 (ppA ps),bA true])),(100001,gB (eV h l)),(100002,gB (.agg [iA 0,iA 0,.str [],.val (Value.slice none 0 0),.val (Value.slice none 0 0)])),(100003,gB (.agg [iA h.kind,iA 0,.str [],.gs 100004 0 ns.length,.gs 100005 0 out.length])),(100004,.arr 9 1 (List.map AV.str ns) .own),(100005,.arr 25 5 (encVs out) .own),(100006,gB (eV hx k))]}),[aE 9999988],[(encVs l)[(i:Int).toNat]?=some (eV hx k),MZ W 62 [sL 1 (ppA ps),.str s] [] (.ret (.tup [sL 1 [],bA false]) []),cloHs [],(List.map AV.str h.names)[(i:Int).toNat]?=some (AV.str s),decide ((i:Int)<n)=true,MZ W 57 [eV h l] [] (.ret (iA n) []),cloHs []]):=kr
theorem b40o_tfnt_0 (W:World) (h hx hy:JH) (l k y out:List JV) (ps rs:List (List (List UInt8))) (ns:List (List UInt8)) (n:Int) (i:Nat) (s:List UInt8) (r0:List (List UInt8)):sQ W {lp:=true,ol:=true,tl:=[57,62,61,40]} 40 1 [] [2,3,4,5,7] (O40 ps true h l ns out i) [ee,.lg,ee,cR (iA n) [],bt,aE 1,oS (.str s),ee,.lg,ee,cR (.tup [sL 1 (ppA (r0::rs)),bA false]) [],aE 1,oS (eV hx k),aE 5,bt,bt,ee,.lg,ee,cR (bA true) [],aE 1,bt,aE 1,bt,ee,.lg,ee,cR (eV hy y) [],aE 2,oS (.str s),aE 1,.lg,.lg,aE 1,.lg,.lg,ee]=.ok ((.normal,{t:=[(2,.gp 100000 0),(3,.gp 100001 0),(4,.gp 100002 0),(5,.gp 100003 0),(7,iA (IntKind.i64.wrap ((i:Int)+1)))],h:=[(100000,gB (.agg [sL 1 (ppA ps),bA true])),(100001,gB (eV h l)),(100002,gB (.agg [iA 0,iA 0,.str [],.val (Value.slice none 0 0),.val (Value.slice none 0 0)])),(100003,gB (.agg [iA h.kind,iA 0,.str [],.gs 100008 0 (ns.length+[AV.str s].length),.gs 100010 0 (out.length+[eV hy y].length)])),(100004,.dead),(100005,.dead),(100006,gB (eV hy y)),(100007,.arr 9 1 [.str s] .own),(100008,.arr 9 1 (List.take ns.length (List.map AV.str ns)++[AV.str s]) .own),(100009,.arr 25 5 [eV hy y] .own),(100010,.arr 25 5 (List.take out.length (encVs out)++[eV hy y]) .own)]}),[ee],((out.length+[eV hy y].length) * 80<=140737488355328)::((St.own=St.own\/St.own=St.shr/\out.length=(encVs out).length)/\out.length<=(encVs out).length)::((ns.length+[AV.str s].length) * 16<=140737488355328)::((St.own=St.own\/St.own=St.shr/\ns.length=(List.map AV.str ns).length)/\ns.length<=(List.map AV.str ns).length)::((List.map AV.str h.names)[(i:Int).toNat]?=some (AV.str s))::MZ W 40 [.agg [sL 1 (sL 1 (List.map AV.str r0)::ppA rs),bA true],eV hx k] [] (.ret (eV hy y) [])::cloHs []::(d2 (decide (0<(↑(sL 1 (List.map AV.str r0)::ppA rs).length:Int))=true) (MZ W 61 [eV hx k] [] (.ret (bA true) [])::cloHs []::(d2 (decide (0<(↑(sL 1 (List.map AV.str r0)::ppA rs).length:Int))=true) [(encVs l)[(i:Int).toNat]?=some (eV hx k),MZ W 62 [sL 1 (ppA ps),.str s] [] (.ret (.tup [sL 1 (sL 1 (List.map AV.str r0)::ppA rs),bA false]) []),cloHs [],(List.map AV.str h.names)[(i:Int).toNat]?=some (AV.str s),decide ((i:Int)<n)=true,MZ W 57 [eV h l] [] (.ret (iA n) []),cloHs []])))):=kr
theorem b40o_tfnf_0 (W:World) (h hx hy:JH) (l k y out:List JV) (ps rs:List (List (List UInt8))) (ns:List (List UInt8)) (n:Int) (i:Nat) (s:List UInt8) (r0:List (List UInt8)):sQ W {lp:=true,ol:=true,tl:=[57,62,61,40]} 40 1 [] [2,3,4,5,7] (O40 ps true h l ns out i) [ee,.lg,ee,cR (iA n) [],bt,aE 1,oS (.str s),ee,.lg,ee,cR (.tup [sL 1 (ppA (r0::rs)),bA false]) [],aE 1,oS (eV hx k),aE 5,bt,bt,ee,.lg,ee,cR (bA false) [],aE 1,bt,aE 1,bt,ee,.lg,ee,cR (eV hy y) [],ee]=.ok ((.normal,{t:=[(2,.gp 100000 0),(3,.gp 100001 0),(4,.gp 100002 0),(5,.gp 100003 0),(7,iA (IntKind.i64.wrap ((i:Int)+1)))],h:=[(100000,gB (.agg [sL 1 (ppA ps),bA true])),(100001,gB (eV h l)),(100002,gB (.agg [iA 0,iA 0,.str [],.val (Value.slice none 0 0),.val (Value.slice none 0 0)])),(100003,gB (.agg [iA h.kind,iA 0,.str [],.gs 100004 0 ns.length,.gs 100005 0 out.length])),(100004,.arr 9 1 (List.map AV.str ns) .own),(100005,.arr 25 5 (encVs out) .own),(100006,gB (eV hy y))]}),[aE 9999999],MZ W 40 [.agg [sL 1 (sL 1 (List.map AV.str r0)::ppA rs),bA true],eV hx k] [] (.ret (eV hy y) [])::cloHs []::(d2 (decide (0<(↑(sL 1 (List.map AV.str r0)::ppA rs).length:Int))=true) (MZ W 61 [eV hx k] [] (.ret (bA false) [])::cloHs []::(d2 (decide (0<(↑(sL 1 (List.map AV.str r0)::ppA rs).length:Int))=true) [(encVs l)[(i:Int).toNat]?=some (eV hx k),MZ W 62 [sL 1 (ppA ps),.str s] [] (.ret (.tup [sL 1 (sL 1 (List.map AV.str r0)::ppA rs),bA false]) []),cloHs [],(List.map AV.str h.names)[(i:Int).toNat]?=some (AV.str s),decide ((i:Int)<n)=true,MZ W 57 [eV h l] [] (.ret (iA n) []),cloHs []])))):=kr
theorem b40o_ftet_0 (W:World) (h hx:JH) (l k out:List JV) (ps:List (List (List UInt8))) (ns:List (List UInt8)) (n:Int) (i:Nat) (s:List UInt8):sQ W {lp:=true,ol:=true,tl:=[57,62,61,40]} 40 1 [] [2,3,4,5,7] (O40 ps false h l ns out i) [ee,.lg,ee,cR (iA n) [],bt,aE 1,oS (.str s),ee,.lg,ee,cR (.tup [sL 1 (ppA []),bA true]) [],aE 1,oS (eV hx k),ee]=.ok ((.normal,{t:=[(2,.gp 100000 0),(3,.gp 100001 0),(4,.gp 100002 0),(5,.gp 100003 0),(7,iA (IntKind.i64.wrap ((i:Int)+1)))],h:=[(100000,gB (.agg [sL 1 (ppA ps),bA false])),(100001,gB (eV h l)),(100002,gB (.agg [iA 0,iA 0,.str [],.val (Value.slice none 0 0),.val (Value.slice none 0 0)])),(100003,gB (.agg [iA h.kind,iA 0,.str [],.gs 100004 0 ns.length,.gs 100005 0 out.length])),(100004,.arr 9 1 (List.map AV.str ns) .own),(100005,.arr 25 5 (encVs out) .own),(100006,gB (eV hx k))]}),[aE 9999997],[(encVs l)[(i:Int).toNat]?=some (eV hx k),MZ W 62 [sL 1 (ppA ps),.str s] [] (.ret (.tup [sL 1 [],bA true]) []),cloHs [],(List.map AV.str h.names)[(i:Int).toNat]?=some (AV.str s),decide ((i:Int)<n)=true,MZ W 57 [eV h l] [] (.ret (iA n) []),cloHs []]):=kr
theorem b40o_ffet_0 (W:World) (h hx:JH) (l k out:List JV) (ps:List (List (List UInt8))) (ns:List (List UInt8)) (n:Int) (i:Nat) (s:List UInt8):sQ W {lp:=true,ol:=true,tl:=[57,62,61,40]} 40 1 [] [2,3,4,5,7] (O40 ps false h l ns out i) [ee,.lg,ee,cR (iA n) [],bt,aE 1,oS (.str s),ee,.lg,ee,cR (.tup [sL 1 (ppA []),bA false]) [],aE 1,oS (eV hx k),aE 4,oS (.str s),aE 1,.lg,.lg,aE 1,.lg,.lg,ee]=.ok ((.normal,{t:=[(2,.gp 100000 0),(3,.gp 100001 0),(4,.gp 100002 0),(5,.gp 100003 0),(7,iA (IntKind.i64.wrap ((i:Int)+1)))],h:=[(100000,gB (.agg [sL 1 (ppA ps),bA false])),(100001,gB (eV h l)),(100002,gB (.agg [iA 0,iA 0,.str [],.val (Value.slice none 0 0),.val (Value.slice none 0 0)])),(100003,gB (.agg [iA h.kind,iA 0,.str [],.gs 100008 0 (ns.length+[AV.str s].length),.gs 100010 0 (out.length+[eV hx k].length)])),(100004,.dead),(100005,.dead),(100006,gB (eV hx k)),(100007,.arr 9 1 [.str s] .own),(100008,.arr 9 1 (List.take ns.length (List.map AV.str ns)++[AV.str s]) .own),(100009,.arr 25 5 [eV hx k] .own),(100010,.arr 25 5 (List.take out.length (encVs out)++[eV hx k]) .own)]}),[ee],[(out.length+[eV hx k].length) * 80<=140737488355328,(St.own=St.own\/St.own=St.shr/\out.length=(encVs out).length)/\out.length<=(encVs out).length,(ns.length+[AV.str s].length) * 16<=140737488355328,(St.own=St.own\/St.own=St.shr/\ns.length=(List.map AV.str ns).length)/\ns.length<=(List.map AV.str ns).length,(List.map AV.str h.names)[(i:Int).toNat]?=some (AV.str s),(encVs l)[(i:Int).toNat]?=some (eV hx k),MZ W 62 [sL 1 (ppA ps),.str s] [] (.ret (.tup [sL 1 [],bA false]) []),cloHs [],(List.map AV.str h.names)[(i:Int).toNat]?=some (AV.str s),decide ((i:Int)<n)=true,MZ W 57 [eV h l] [] (.ret (iA n) []),cloHs []]):=kr
theorem b40o_ffnt_0 (W:World) (h hx hy:JH) (l k y out:List JV) (ps rs:List (List (List UInt8))) (ns:List (List UInt8)) (n:Int) (i:Nat) (s:List UInt8) (r0:List (List UInt8)):sQ W {lp:=true,ol:=true,tl:=[57,62,61,40]} 40 1 [] [2,3,4,5,7] (O40 ps false h l ns out i) [ee,.lg,ee,cR (iA n) [],bt,aE 1,oS (.str s),ee,.lg,ee,cR (.tup [sL 1 (ppA (r0::rs)),bA false]) [],aE 1,oS (eV hx k),aE 1,bt,ee,.lg,ee,cR (eV hy y) [],aE 2,oS (.str s),aE 1,.lg,.lg,aE 1,.lg,.lg,ee]=.ok ((.normal,{t:=[(2,.gp 100000 0),(3,.gp 100001 0),(4,.gp 100002 0),(5,.gp 100003 0),(7,iA (IntKind.i64.wrap ((i:Int)+1)))],h:=[(100000,gB (.agg [sL 1 (ppA ps),bA false])),(100001,gB (eV h l)),(100002,gB (.agg [iA 0,iA 0,.str [],.val (Value.slice none 0 0),.val (Value.slice none 0 0)])),(100003,gB (.agg [iA h.kind,iA 0,.str [],.gs 100008 0 (ns.length+[AV.str s].length),.gs 100010 0 (out.length+[eV hy y].length)])),(100004,.dead),(100005,.dead),(100006,gB (eV hy y)),(100007,.arr 9 1 [.str s] .own),(100008,.arr 9 1 (List.take ns.length (List.map AV.str ns)++[AV.str s]) .own),(100009,.arr 25 5 [eV hy y] .own),(100010,.arr 25 5 (List.take out.length (encVs out)++[eV hy y]) .own)]}),[ee],[(out.length+[eV hy y].length) * 80<=140737488355328,(St.own=St.own\/St.own=St.shr/\out.length=(encVs out).length)/\out.length<=(encVs out).length,(ns.length+[AV.str s].length) * 16<=140737488355328,(St.own=St.own\/St.own=St.shr/\ns.length=(List.map AV.str ns).length)/\ns.length<=(List.map AV.str ns).length,(List.map AV.str h.names)[(i:Int).toNat]?=some (AV.str s),MZ W 40 [.agg [sL 1 (sL 1 (List.map AV.str r0)::ppA rs),bA false],eV hx k] [] (.ret (eV hy y) []),cloHs [],decide (0<(↑(sL 1 (List.map AV.str r0)::ppA rs).length:Int))=true,(encVs l)[(i:Int).toNat]?=some (eV hx k),MZ W 62 [sL 1 (ppA ps),.str s] [] (.ret (.tup [sL 1 (sL 1 (List.map AV.str r0)::ppA rs),bA false]) []),cloHs [],(List.map AV.str h.names)[(i:Int).toNat]?=some (AV.str s),decide ((i:Int)<n)=true,MZ W 57 [eV h l] [] (.ret (iA n) []),cloHs []]):=kr
theorem b40oz_0 (W:World) (h:JH) (l out:List JV) (ps:List (List (List UInt8))) (ns:List (List UInt8)) (b:Bool) (n:Int) (i:Nat):sQ W {lp:=true,ol:=true,tl:=[57]} 40 1 [] [2,3,4,5,7] (O40 ps b h l ns out i) [ee,.lg,ee,cR (iA n) [],bf,ee]=.ok ((.exit 2,{t:=[(2,.gp 100000 0),(3,.gp 100001 0),(4,.gp 100002 0),(5,.gp 100003 0),(7,iA (i:Int))],h:=[(100000,gB (.agg [sL 1 (ppA ps),bA b])),(100001,gB (eV h l)),(100002,gB (.agg [iA 0,iA 0,.str [],.val (Value.slice none 0 0),.val (Value.slice none 0 0)])),(100003,gB (.agg [iA h.kind,iA 0,.str [],.gs 100004 0 ns.length,.gs 100005 0 out.length])),(100004,.arr 9 1 (List.map AV.str ns) .own),(100005,.arr 25 5 (encVs out) .own)]}),[ee],[decide ((i:Int)<n)=false,MZ W 57 [eV h l] [] (.ret (iA n) []),cloHs []]):=kr
theorem anyC_mem {p:List (List UInt8)} {l:List (List (List UInt8))} (h:anyC p l=false) {q:List (List UInt8)} (hq:q ∈ l):clashB p q=false:=by
 unfold anyC at h
 rw [List.any_eq_false] at h
 simpa using h q hq
theorem cBG_pair:∀ (l pre:List (List (List UInt8))),cBG pre l=false->∀ p ∈ l,∀ q ∈ pre++l,p ≠ q->clashB p q=false\/clashB q p=false
 | [],_,_,p,hp,_,_,_=>by cases hp
 | x::l,pre,h,p,hp,q,hq,hne=>by
  rw [cBG,Bool.or_eq_false_iff] at h
  have ih:=cBG_pair l (pre++[x]) h.2
  have e:pre++x::l=(pre++[x])++l:=by simp
  rcases List.mem_cons.1 hp with rfl|hp
  ·rcases List.mem_append.1 hq with hq|hq
   ·exact .inl (anyC_mem h.1 hq)
   ·rcases List.mem_cons.1 hq with rfl|hq
    ·exact absurd rfl hne
    ·exact (ih q hq p (by simp) (Ne.symm hne)).symm
  ·exact ih p hp q (by rw [<-e];exact hq) hne
def rsO (s:List UInt8) (l:List (List (List UInt8))):List (List (List UInt8)):=(l.filter fun p=>p.head? == some s && decide (1<p.length)).map List.tail
def rsW (s:List UInt8) (l:List (List (List UInt8))):Bool:=l.any fun p=>p.head? == some s && decide (p.length=1)
theorem rsW_iff {s:List UInt8} {l:List (List (List UInt8))}:rsW s l=true ↔ [s] ∈ l:=by
 unfold rsW
 rw [List.any_eq_true]
 constructor
 ·rintro ⟨p,hp,h⟩
  simp only [Bool.and_eq_true,beq_iff_eq,decide_eq_true_eq] at h
  cases p with
  | nil=>simp at h
  | cons a t =>
   cases t with
   | nil=>simp at h;rw [<-h];exact hp
   | cons _ _=>simp at h
 ·exact fun h=>⟨[s],h,by simp⟩
theorem rs_eq {ps:List (List (List UInt8))} (hB:cB ps=false) (s:List UInt8):restsV ps s=(rsO s ps,rsW s ps):=by
 unfold restsV
 by_cases h:[s] ∈ ps
 ·rw [restsG_end s ps [] h,rsW_iff.2 h]
  have:ps.filter (fun p=>p.head? == some s && decide (1<p.length))=[]:=by
   rw [List.filter_eq_nil_iff]
   intro p hp hq
   simp only [Bool.and_eq_true,beq_iff_eq,decide_eq_true_eq] at hq
   cases p with
   | nil=>simp at hq
   | cons a t =>
    simp at hq
    obtain ⟨rfl,ht⟩:=hq
    have:=cBG_pair ps [] hB (a::t) hp [a] (by simpa using h) (by
     intro e
     have:t=[]:=by simpa using e
     subst this
     simp at ht)
    cases t with
    | nil=>simp at ht
    | cons b u=>simp [clashB] at this
  rw [rsO,this];rfl
 ·rw [restsG_out s ps [] h]
  have h2:rsW s ps=false:=by
   cases hw:rsW s ps with
   | false=>rfl
   | true=>exact absurd (rsW_iff.1 hw) h
  rw [h2,rsO]
  congr 2
  rw [List.nil_append]
  congr 1
  refine List.filter_congr fun p hp=>?_
  cases p with
  | nil=>rfl
  | cons a t =>
   cases t with
   | nil =>
    have:a ≠ s:=fun e=>h (by rw [<-e];exact hp)
    simp [this]
   | cons _ _=>simp
theorem rsO_cons (s:List UInt8) (p:List (List UInt8)) (l:List (List (List UInt8))):rsO s (p::l)=(if p.head?=some s/\1<p.length then p.tail::rsO s l else rsO s l):=by
 unfold rsO
 rw [List.filter_cons]
 by_cases h:p.head?=some s/\1<p.length
 ·rw [if_pos h,if_pos (by simp [h.1,h.2])];rfl
 ·rw [if_neg h,if_neg (by simpa using h)]
theorem rsO_app (s:List UInt8) (a b:List (List (List UInt8))):rsO s (a++b)=rsO s a++rsO s b:=by unfold rsO;rw [List.filter_append,List.map_append]
theorem rsO_mem {s:List UInt8} {l:List (List (List UInt8))} {t:List (List UInt8)} (h:t ∈ rsO s l):s::t ∈ l/\t ≠ []:=by
 unfold rsO at h
 obtain ⟨p,hp,rfl⟩:=List.mem_map.1 h
 rw [List.mem_filter] at hp
 cases p with
 | nil=>simp at hp
 | cons a u =>
  simp only [List.head?_cons,List.length_cons,Bool.and_eq_true,beq_iff_eq,Option.some.injEq,decide_eq_true_eq] at hp
  obtain ⟨h1,rfl,h2⟩:=hp
  exact ⟨h1,by rintro e;simp only [List.tail_cons] at e;subst e;simp at h2⟩
theorem rsO_cB (s:List UInt8):∀ (l pre:List (List (List UInt8))),cBG pre l=false->cBG (rsO s pre) (rsO s l)=false
 | [],_,_=>rfl
 | x::l,pre,h=>by
  rw [cBG,Bool.or_eq_false_iff] at h
  have ih:=rsO_cB s l (pre++[x]) h.2
  rw [rsO_app,rsO_cons] at ih
  rw [rsO_cons]
  by_cases hx:x.head?=some s/\1<x.length
  ·rw [if_pos hx] at ih ⊢
   rw [cBG,Bool.or_eq_false_iff]
   refine ⟨?_,ih⟩
   unfold anyC
   rw [List.any_eq_false]
   intro t ht
   have h1:=anyC_mem h.1 (rsO_mem ht).1
   cases x with
   | nil=>simp at hx
   | cons a u =>
    simp only [List.head?_cons,Option.some.injEq] at hx
    obtain ⟨rfl,_⟩:=hx
    simp only [clashB,if_pos,List.tail_cons] at h1 ⊢
    simpa using h1
  ·rw [if_neg hx] at ih ⊢
   rw [show rsO s pre++rsO s []=rsO s pre from List.append_nil _] at ih
   exact ih
theorem rsG_at {ps:List (List (List UInt8))} {i:Nat} {p:List (List UInt8)} (hp:ps[i]?=some p) (s:List UInt8):rsO s (ps.drop i)=(if p.head?=some s/\1<p.length then p.tail::rsO s (ps.drop (i+1)) else rsO s (ps.drop (i+1)))/\rsW s (ps.drop i)=((p.head? == some s && decide (p.length=1)) || rsW s (ps.drop (i+1))):=by
 rw [drop_get hp,rsO_cons]
 exact ⟨rfl,rfl⟩
section
variable (W:World)
theorem call62h:callable Tryz.prog 62=true:=kr
theorem call61h:callable Tryz.prog 61=true:=kr
theorem call40h:callable Tryz.prog 40=true:=kr
theorem rests62 (ps:List (List (List UInt8))) (s:List UInt8) (hne:∀ p ∈ ps,p ≠ []) (hl:ps.length<=2 ^ 30):Pure Tryz.prog W 62 [.sl 1 (ppA ps) [],.str s] (.tup [.sl 1 (ppA (rsO s ps)) [],bA (rsW s ps)]):=by
 have loop:∀ (j i:Nat) (ot:List (List (List UInt8))) (w:Bool),ps.length - i=j->i<=ps.length->ot.length<=i →
  LoopC Tryz.prog W [] (nslots Tryz.prog 62) (loopOf Tryz.prog 62 0) (S62 ps ot s w i) (.exit 0) (E62 (ot++rsO s (ps.drop i)) (w || rsW s (ps.drop i))):=by
  intro j
  induction j with
  | zero =>
   intro i ot w hj hi ho
   have hcl:=ppA_clo ot
   have e:decide ((i:Int)<(((ppA ps).length:Nat):Int))=false:=by rw [ppA_len];exact decide_eq_false (by omega)
   rw [List.drop_of_length_le (l:=ps) (by omega)]
   rw [show rsO s []=[] from rfl,show rsW s []=false from rfl,List.append_nil,Bool.or_false]
   exact loop_last (by simp) (body_of_sbodyK mixedz (b62e_4 W ps w i s ot) Tg_z2 [] [] Tg_z1)
  | succ j ihj =>
   intro i ot w hj hi ho
   have hcl:=ppA_clo ot
   obtain ⟨p,hp⟩:=getOf (l:=ps) (i:=i) (by omega)
   have e:decide ((i:Int)<(((ppA ps).length:Nat):Int))=true:=by rw [ppA_len];exact decide_eq_true (by omega)
   have hget:(ppA ps)[((i:Int)).toNat]?=some (.sl 1 (p.map AV.str) []):=by rw [Int.toNat_natCast];exact ppA_get hp
   have hws:IntKind.i64.wrap ((i:Int)+1)=((i+1:Nat):Int):=wrap_succ (by omega)
   have hp0:=hne p (List.mem_of_getElem? hp)
   obtain ⟨x,q,hpq⟩:∃ x q,p=x::q:=by cases p with|nil=>exact absurd rfl hp0|cons x q=>exact ⟨x,q,rfl⟩
   have hgx:(List.map AV.str p)[0]?=some (AV.str x):=by rw [hpq];rfl
   obtain ⟨r1,r2⟩:=rsG_at hp s
   rw [r1,r2]
   by_cases hx:x=s
   case neg =>
    have c1:decide (x=s)=false:=decide_eq_false hx
    have e1:(p.head? == some s)=false:=by rw [hpq];simpa using hx
    have e2:¬ (p.head?=some s/\1<p.length):=by rw [hpq];simpa using fun h=>absurd h hx
    rw [e1,Bool.false_and,Bool.false_or,if_neg e2]
    exact loop_next (body_of_sbodyK mixedz (b62n_0 W ps w i s x p ot) Tg_z2 [] [] (σ3:=S62 ps ot s w (i+1)) Tg_z1) (ihj (i+1) ot w (by omega) (by omega) (by omega))
   have c1:decide (x=s)=true:=decide_eq_true hx
   have e1:(p.head? == some s)=true:=by rw [hpq,hx];simp
   have e3:p.head?=some s:=by rw [hpq,hx];rfl
   rw [e1,Bool.true_and]
   by_cases h1:p.length=1
   ·have c2:decide (((List.map AV.str p).length:Int)=1)=true:=by rw [List.length_map];exact decide_eq_true (by omega)
    have c3:decide ((1:Int)<((List.map AV.str p).length:Int))=false:=by rw [List.length_map];exact decide_eq_false (by omega)
    rw [if_neg (by omega),decide_eq_true h1,Bool.true_or,Bool.or_true]
    have nx:=ihj (i+1) ot true (by omega) (by omega) (by omega)
    rw [Bool.true_or] at nx
    exact loop_next (body_of_sbodyK mixedz (b62e_1 W ps w i s x p ot) (by clear nx;exact Tg_z2) [] [] (σ3:=S62 ps ot s true (i+1)) (by clear nx;exact Tg_z1)) nx
   ·have hlp:1<p.length:=by rw [hpq] at h1 ⊢;simp only [List.length_cons] at h1 ⊢;omega
    have c2:decide (((List.map AV.str p).length:Int)=1)=false:=by rw [List.length_map];exact decide_eq_false (by omega)
    have c3:decide ((1:Int)<((List.map AV.str p).length:Int))=true:=by rw [List.length_map];exact decide_eq_true (by omega)
    rw [if_pos ⟨e3,hlp⟩,decide_eq_false h1,Bool.false_or]
    have hdl:defLen (AV.sl 1 (List.map AV.str p) [])=p.length:=by simp [defLen]
    have e4:List.drop 1 (List.take ((defLen (AV.sl 1 (List.map AV.str p) []):Nat):Int).toNat (List.map AV.str p++[]))=p.tail.map AV.str:=by
     rw [hdl,Int.toNat_natCast,List.append_nil,List.take_of_length_le (by simp),hpq];rfl
    have e5:List.drop ((defLen (AV.sl 1 (List.map AV.str p) []):Nat):Int).toNat (List.map AV.str p++[])=[]:=by
     rw [hdl,Int.toNat_natCast,List.append_nil,List.drop_of_length_le (by simp)]
    have hr:(1:Int)<=((defLen (AV.sl 1 (List.map AV.str p) []):Nat):Int)/\((defLen (AV.sl 1 (List.map AV.str p) []):Nat):Int)<=((List.map AV.str p).length:Int)+0:=by
     rw [hdl,List.length_map];omega
    obtain ⟨hr1,hr2⟩:=hr
    have hset:List.take ot.length (ppA ot)++[AV.sl 1 (p.tail.map AV.str) []]=ppA (ot++[p.tail]):=ppA_push ot p.tail
    have hcl2:=ppA_clo (ot++[p.tail])
    have hb0:=(b62e_2 W ps w i s x p ot)
    rw [e4,e5] at hb0
    have hot:=ppA_len ot
    have hlen:(ot++[p.tail]).length=ot.length+1:=by simp
    have nx:=ihj (i+1) (ot++[p.tail]) w (by omega) (by omega) (by omega)
    rw [List.append_assoc,List.singleton_append] at nx
    have hb:=body_of_sbodyK mixedz hb0 ⟨by simp only [List.length_cons,List.length_nil];omega,⟨.inl rfl,by omega⟩,⟨hr1,hr2⟩,(by clear nx hb0 ihj;simp only [Holds,cloHs,and_true];and_intros<;>assumption)⟩ [(100000,100002)] [] (σ3:=S62 ps (ot++[p.tail]) s w (i+1)) (by
     clear nx hb0 ihj
     refine ⟨by rfl,?_,?_,?_,?_⟩
     ·simp only [S62,tOK,List.map_cons,List.map_nil,and_true]
      and_intros<;>first|exact zp|exact .eq (congrArg (AV.gs _ 0) hlen.symm) rfl
     ·simp only [S62,hOK,List.map_cons,List.map_nil,and_true]
      exact gOK_arr rfl rfl hset hcl2
     ·simp only [S62,liveT,List.map_cons,List.map_nil,and_true]
      exact zv
     ·simp only [S62,liveH,List.map_cons,List.map_nil,and_true]
      exact allN_cloL hcl2)
    exact loop_next hb nx
 have hlp:=loop ps.length 0 [] false (by omega) (by omega) (Nat.le_refl _)
 rw [List.drop_zero,List.nil_append,Bool.false_or] at hlp
 generalize rsO s ps=ot at hlp ⊢
 generalize rsW s ps=w at hlp ⊢
 have hcl:=ppA_clo ot
 exact pure_frz [(100000,.arr 22 1 (ppA ot) .own)] (mut_of_sfun mixedz call62h rfl (p62_0 W ps w s ot) Tg_z2) (frz2 rfl (ppA_clo ot)) (by
  have e1:List.take ot.length (ppA ot)=ppA ot:=by rw [<-ppA_len ot,List.take_length]
  simp [clA,clL,lk,iA,bA,ppA_len,e1]) rfl
theorem parts61 (v:JV):Pure Tryz.prog W 61 [encV v] (bA (deepB v)):=by
 obtain ⟨hx,k⟩:=v
 show Pure _ _ _ _ (bA (decide (hx.kind=6) || decide (hx.kind=5)))
 by_cases h:hx.kind=6
 ·have c:=decide_eq_true h
  rw [c,Bool.true_or]
  exact pure_of_mut rfl (mut_of_sfun mixedz call61h rfl (p61_0 W hx k) Tg_z2)
 ·have c:=decide_eq_false h
  rw [c,Bool.false_or]
  exact pure_of_mut rfl (mut_of_sfun mixedz call61h rfl (p61_1 W hx k) Tg_z2)
theorem loop40l (ps:List (List (List UInt8))) (b:Bool) (h:JH) (l:List JV) (hl:l.length<=2 ^ 31)
 (ih:∀ (i:Nat) (x:JV),l[i]?=some x->Pure Tryz.prog W 40 [fA ps b,encV x] (encV (thrV b ps x))) :
 ∀ (j i:Nat) (out:List JV),l.length - i=j->i<=l.length->out.length<=i->LoopC Tryz.prog W [] (nslots Tryz.prog 40) (loopOf Tryz.prog 40 0) (L40 ps b h l out i) (.exit 0) (E40 h (out++thrL b ps (l.drop i))):=by
 intro j
 induction j with
 | zero =>
  intro i out hj hi ho
  have e:decide ((i:Int)<(((encVs l).length:Nat):Int))=false:=by rw [encVs_len];exact decide_eq_false (by omega)
  rw [List.drop_of_length_le (l:=l) (by omega),thrL,List.append_nil]
  exact loop_last (by simp) (body_of_sbodyK mixedz (b40l_3 W h l out ps b i) Tg_z2 [] [] Tg_z1)
 | succ j ihj =>
  intro i out hj hi ho
  obtain ⟨x,hx⟩:=getOf (l:=l) (i:=i) (by omega)
  have e:decide ((i:Int)<(((encVs l).length:Nat):Int))=true:=by rw [encVs_len];exact decide_eq_true (by omega)
  have hws:IntKind.i64.wrap ((i:Int)+1)=((i+1:Nat):Int):=wrap_succ (by omega)
  have hc40:=mut_of_pure (by simp [cloL,encV_clo,AV.clo,bA,fA,ppA_clo]) (ih i x hx)
  have hc61:=mut_of_pure (by simp [cloL,encV_clo]) (parts61 W x)
  rw [thrL_at hx]
  generalize thrV b ps x=y0 at hc40
  generalize deepB x=dp at *
  obtain ⟨hx1,k⟩:=x
  obtain ⟨hy1,k2⟩:=y0
  have hget:(encVs l)[((i:Int)).toNat]?=some (encV (.mk hx1 k)):=by rw [Int.toNat_natCast];exact encVs_get hx
  have q2:(out.length+[encV (.mk hy1 k2)].length) * 80<=140737488355328:=by simp only [List.length_cons,List.length_nil];omega
  have q4:(St.own=St.own\/St.own=St.shr/\out.length=(encVs out).length)/\out.length<=(encVs out).length:=⟨.inl rfl,by rw [encVs_len];omega⟩
  have hsetO:=push_o out (.mk hy1 k2)
  have hone:(out++[JV.mk hy1 k2]).length<=i+1:=by rw [List.length_append];simp only [List.length_cons,List.length_nil];omega
  have h1:=ihj (i+1) (out++[.mk hy1 k2]) (by omega) (by omega) hone
  rw [List.append_assoc,List.singleton_append] at h1
  have hgl:out.length+[encV (.mk hy1 k2)].length=(out++[JV.mk hy1 k2]).length:=by rw [List.length_append];rfl
  cases dp with
  | true =>
   rw [if_pos (.inl rfl)]
   exact loop_next (body_of_sbodyK mixedz (b40l_0 W h hx1 hy1 l k k2 out ps b true i) (by clear h1;exact Tg_z2) [(100004,100006)] [] (σ3:=L40 ps b h l (out++[.mk hy1 k2]) (i+1)) (by clear h1;exact Tg_z1)) h1
  | false =>
   cases b with
   | true =>
    have cb:(!true)=false:=rfl
    rw [if_neg (by simp)]
    have h2:=ihj (i+1) out (by omega) (by omega) (by omega)
    exact loop_next (body_of_sbodyK mixedz (b40l_2 W h hx1 l k out ps true false i) (by clear h1 h2;exact Tg_z2) [] [] (σ3:=L40 ps true h l out (i+1)) (by clear h1 h2;exact Tg_z1)) h2
   | false =>
    have cb:(!false)=true:=rfl
    rw [if_pos (.inr rfl)]
    exact loop_next (body_of_sbodyK mixedz (b40l_1 W h hx1 hy1 l k k2 out ps false false i) (by clear h1;exact Tg_z2) [(100004,100006)] [] (σ3:=L40 ps false h l (out++[.mk hy1 k2]) (i+1)) (by clear h1;exact Tg_z1)) h1
inductive Rn4 (h:JH) (l:List JV) (ps:List (List (List UInt8))) (b:Bool) (s:List UInt8) (i:Nat):Prop
 | keep (y:JV) (ht:∀ r:List (List UInt8)×List JV,(thrM b ps (h.names.drop (i+1)) (l.drop (i+1)))=r->thrM b ps (h.names.drop i) (l.drop i)=(s::r.1,y::r.2))
  (hb:∀ (ns:List (List UInt8)) (out:List JV),ns.length<=i->out.length<=i->BodyC Tryz.prog W [] (nslots Tryz.prog 40) (loopOf Tryz.prog 40 1) (O40 ps b h l ns out i) .normal (O40 ps b h l (ns++[s]) (out++[y]) (i+1)))
 | skip (ht:thrM b ps (h.names.drop i) (l.drop i)=thrM b ps (h.names.drop (i+1)) (l.drop (i+1)))
  (hb:∀ (ns:List (List UInt8)) (out:List JV),BodyC Tryz.prog W [] (nslots Tryz.prog 40) (loopOf Tryz.prog 40 1) (O40 ps b h l ns out i) .normal (O40 ps b h l ns out (i+1)))
theorem round40 (h:JH) (l:List JV) (ps:List (List (List UInt8))) (b:Bool) (m:Nat) (s:List UInt8) (x:JV) (i:Nat) (hne:∀ p ∈ ps,p ≠ []) (hpl:ps.length<=2 ^ 30) (hB:cB ps=false) (hs:h.names[i]?=some s) (hx:l[i]?=some x) (him:i<m) (hm:m<=2 ^ 31) (hmem:(JV.mk h l).mem=m)
 (ih:∀ (rs:List (List (List UInt8))),rs.length<=2 ^ 30->cB rs=false->(∀ p ∈ rs,p ≠ [])->rs ≠ []->Pure Tryz.prog W 40 [fA rs b,encV x] (encV (thrV b rs x))):Rn4 W h l ps b s i:=by
 have e:decide ((i:Int)<(m:Int))=true:=decide_eq_true (by omega)
 have hws:IntKind.i64.wrap ((i:Int)+1)=((i+1:Nat):Int):=wrap_succ (by omega)
 have hc57:=mut_of_pure (by simp [cloL,encV_clo]) (members22 W (.mk h l))
 rw [hmem] at hc57
 have hc62:=mut_of_pure (by rfl) (rests62 W ps s hne hpl)
 have hr1:=rests_len ps s
 have hr2:=rests_ne hne s
 have hr3:(restsV ps s).2=true->(restsV ps s).1=[]:=fun g=>restsG_snd s ps [] g
 have hr4:cB (restsV ps s).1=false:=by rw [rs_eq hB s];exact rsO_cB s ps [] hB
 have hgs:(h.names.map AV.str)[((i:Int)).toNat]?=some (AV.str s):=by rw [Int.toNat_natCast];exact strs_get hs
 have hat:=thrM_at (b:=b) (ps:=ps) hs hx
 have hre:=rs_eq hB s
 rw [show rsO s ps=(restsV ps s).1 by rw [hre],show rsW s ps=(restsV ps s).2 by rw [hre]] at hc62
 clear hre
 generalize restsV ps s=r at hc62 hr1 hr2 hr3 hr4 hat
 obtain ⟨rs,wh⟩:=r
 simp only at hc62 hr1 hr2 hr3 hr4 hat
 have hc40:=fun h0=>mut_of_pure (by simp [cloL,encV_clo,AV.clo,bA,fA,ppA_clo]) (ih rs (by omega) hr4 hr2 h0)
 have hc61:=mut_of_pure (by simp [cloL,encV_clo]) (parts61 W x)
 have hdp:deepB x=true ↔ (x.kind=6\/x.kind=5):=by simp [deepB]
 clear ih hr1 hr2 hr4 hdp hB hne
 generalize hy:thrV b rs x=y at hc40 hat
 generalize hdd:deepB x=dp at hc61 hat
 obtain ⟨hx1,k⟩:=x
 obtain ⟨hy1,k2⟩:=y
 have hget:(encVs l)[((i:Int)).toNat]?=some (encV (.mk hx1 k)):=by rw [Int.toNat_natCast];exact encVs_get hx
 have len1:∀ (ns:List (List UInt8)),ns.length<=i->(ns.length+[AV.str s].length) * 16<=140737488355328:=fun ns hn=>by simp only [List.length_cons,List.length_nil];omega
 have len2:∀ (out:List JV) (z:JV),out.length<=i->(out.length+[encV z].length) * 80<=140737488355328:=fun out z hn=>by simp only [List.length_cons,List.length_nil];omega
 have le1:∀ (ns:List (List UInt8)),(St.own=St.own\/St.own=St.shr/\ns.length=(List.map AV.str ns).length)/\ns.length<=(List.map AV.str ns).length:=fun ns=>⟨.inl rfl,by rw [List.length_map];omega⟩
 have le2:∀ (out:List JV),(St.own=St.own\/St.own=St.shr/\out.length=(encVs out).length)/\out.length<=(encVs out).length:=fun out=>⟨.inl rfl,by rw [encVs_len];omega⟩
 have gn:∀ (ns:List (List UInt8)),ns.length+[AV.str s].length=(ns++[s]).length:=fun ns=>by rw [List.length_append];rfl
 have go:∀ (out:List JV) (z:JV),out.length+[encV z].length=(out++[z]).length:=fun out z=>by rw [List.length_append];rfl
 clear hy hx hs
 cases b with
 | true =>
  cases wh with
  | true =>
   obtain rfl:=hr3 rfl
   clear hc40 hc61
   refine .keep (.mk hx1 k) (fun r hr=>by rw [hat,if_pos (.inl ⟨rfl,rfl⟩),hr]) fun ns out hn ho=>?_
   have hsetN:=push_n ns s
   have hsetO:=push_o out (.mk hx1 k)
   have q1:=len1 ns hn
   have q2:=len2 out (.mk hx1 k) ho
   have q3:=le1 ns
   have q4:=le2 out
   have g1:=gn ns
   have g2:=go out (.mk hx1 k)
   exact body_of_sbodyK mixedz (b40o_ttet_0 W h hx1 l k out ps ns (m:Int) i s) Tg_z2 [(100004,100008),(100005,100010)] [] (σ3:=O40 ps _ h l (ns++[s]) (out++[(.mk hx1 k)]) (i+1)) Tg_z1
  | false =>
   have n1:¬ ((true=true/\false=true)\/(true=false/\false=false/\rs=[])):=by simp
   cases rs with
   | nil =>
    clear hc40 hc61
    exact .skip (by rw [hat,if_neg n1,if_pos (.inl ⟨rfl,.inl rfl⟩)]) fun ns out=>body_of_sbodyK mixedz (b40o_tfet_0 W h hx1 l k out ps ns (m:Int) i s) Tg_z2 [] [] (σ3:=O40 ps _ h l ns out (i+1)) Tg_z1
   | cons r0 rs =>
    have hl0:decide ((0:Int)<((AV.sl 1 (List.map AV.str r0) []::ppA rs).length:Int))=true:=decide_eq_true (by simp only [List.length_cons];omega)
    have hc4:=hc40 (by simp)
    clear hc40
    cases dp with
    | true =>
    have n2:¬ ((true=true/\(r0::rs=[]\/true=false))\/(true=false/\false=true)):=by simp
    refine .keep (.mk hy1 k2) (fun r hr=>by rw [hat,if_neg n1,if_neg n2,hr]) fun ns out hn ho=>?_
    have hsetN:=push_n ns s
    have hsetO:=push_o out (.mk hy1 k2)
    have q1:=len1 ns hn
    have q2:=len2 out (.mk hy1 k2) ho
    have q3:=le1 ns
    have q4:=le2 out
    have g1:=gn ns
    have g2:=go out (.mk hy1 k2)
    exact body_of_sbodyK mixedz (b40o_tfnt_0 W h hx1 hy1 l k k2 out ps rs ns (m:Int) i s r0) Tg_z2 [(100004,100008),(100005,100010)] [] (σ3:=O40 ps _ h l (ns++[s]) (out++[(.mk hy1 k2)]) (i+1)) Tg_z1
    | false =>
    exact .skip (by rw [hat,if_neg n1,if_pos (.inl ⟨rfl,.inr rfl⟩)]) fun ns out=>body_of_sbodyK mixedz (b40o_tfnf_0 W h hx1 hy1 l k k2 out ps rs ns (m:Int) i s r0) Tg_z2 [] [] (σ3:=O40 ps _ h l ns out (i+1)) Tg_z1
 | false =>
  cases wh with
  | true =>
   obtain rfl:=hr3 rfl
   clear hc40 hc61
   have n1:¬ ((false=true/\true=true)\/(false=false/\true=false/\([]:List (List (List UInt8)))=[])):=by simp
   exact .skip (by rw [hat,if_neg n1,if_pos (.inr ⟨rfl,rfl⟩)]) fun ns out=>body_of_sbodyK mixedz (b40o_ftet_0 W h hx1 l k out ps ns (m:Int) i s) Tg_z2 [] [] (σ3:=O40 ps _ h l ns out (i+1)) Tg_z1
  | false =>
   cases rs with
   | nil =>
    clear hc40 hc61
    refine .keep (.mk hx1 k) (fun r hr=>by rw [hat,if_pos (.inr ⟨rfl,rfl,rfl⟩),hr]) fun ns out hn ho=>?_
    have hsetN:=push_n ns s
    have hsetO:=push_o out (.mk hx1 k)
    have q1:=len1 ns hn
    have q2:=len2 out (.mk hx1 k) ho
    have q3:=le1 ns
    have q4:=le2 out
    have g1:=gn ns
    have g2:=go out (.mk hx1 k)
    exact body_of_sbodyK mixedz (b40o_ffet_0 W h hx1 l k out ps ns (m:Int) i s) Tg_z2 [(100004,100008),(100005,100010)] [] (σ3:=O40 ps _ h l (ns++[s]) (out++[(.mk hx1 k)]) (i+1)) Tg_z1
   | cons r0 rs =>
    have hl0:decide ((0:Int)<((AV.sl 1 (List.map AV.str r0) []::ppA rs).length:Int))=true:=decide_eq_true (by simp only [List.length_cons];omega)
    have hc4:=hc40 (by simp)
    clear hc40
    have n1:¬ ((false=true/\false=true)\/(false=false/\false=false/\r0::rs=[])):=by simp
    have n2:¬ ((false=true/\(r0::rs=[]\/dp=false))\/(false=false/\false=true)):=by simp
    refine .keep (.mk hy1 k2) (fun r hr=>by rw [hat,if_neg n1,if_neg n2,hr]) fun ns out hn ho=>?_
    have hsetN:=push_n ns s
    have hsetO:=push_o out (.mk hy1 k2)
    have q1:=len1 ns hn
    have q2:=len2 out (.mk hy1 k2) ho
    have q3:=le1 ns
    have q4:=le2 out
    have g1:=gn ns
    have g2:=go out (.mk hy1 k2)
    exact body_of_sbodyK mixedz (b40o_ffnt_0 W h hx1 hy1 l k k2 out ps rs ns (m:Int) i s r0) Tg_z2 [(100004,100008),(100005,100010)] [] (σ3:=O40 ps _ h l (ns++[s]) (out++[(.mk hy1 k2)]) (i+1)) Tg_z1
theorem loop40o (h:JH) (l:List JV) (ps:List (List (List UInt8))) (b:Bool) (m:Nat) (hmem:(JV.mk h l).mem=m) (hm:m<=2 ^ 31) (hmn:m<=h.names.length) (hml:m<=l.length) (hmin:m=l.length\/m=h.names.length) (hne:∀ p ∈ ps,p ≠ []) (hpl:ps.length<=2 ^ 30) (hB:cB ps=false)
 (ih:∀ (i:Nat) (x:JV),l[i]?=some x->∀ (rs:List (List (List UInt8))),rs.length<=2 ^ 30->cB rs=false->(∀ p ∈ rs,p ≠ [])->rs ≠ []->Pure Tryz.prog W 40 [fA rs b,encV x] (encV (thrV b rs x))) :
 ∀ (j i:Nat) (ns:List (List UInt8)) (out:List JV),m - i=j->i<=m->ns.length<=i->out.length<=i →
  LoopC Tryz.prog W [] (nslots Tryz.prog 40) (loopOf Tryz.prog 40 1) (O40 ps b h l ns out i) (.exit 2) (E40o h (ns++(thrM b ps (h.names.drop i) (l.drop i)).1) (out++(thrM b ps (h.names.drop i) (l.drop i)).2)):=by
 intro j
 induction j with
 | zero =>
  intro i ns out hj hi hn ho
  have e:decide ((i:Int)<(m:Int))=false:=decide_eq_false (by omega)
  have hc57:=mut_of_pure (by simp [cloL,encV_clo]) (members22 W (.mk h l))
  rw [hmem] at hc57
  rw [thrM_nil (ns:=h.names.drop i) (l:=l.drop i) (by
   rcases hmin with q|q
   ·right;exact List.drop_of_length_le (by omega)
   ·left;exact List.drop_of_length_le (by omega)),List.append_nil,List.append_nil]
  exact loop_last (by simp) (body_of_sbodyK mixedz (b40oz_0 W h l out ps ns b (m:Int) i) Tg_z2 [] [] Tg_z1)
 | succ j ihj =>
  intro i ns out hj hi hn ho
  obtain ⟨x,hx⟩:=getOf (l:=l) (i:=i) (by omega)
  obtain ⟨s,hs⟩:=getOf (l:=h.names) (i:=i) (by omega)
  rcases round40 W h l ps b m s x i hne hpl hB hs hx (by omega) hm hmem (ih i x hx) with ⟨y,ht,hb⟩|⟨ht,hb⟩
  ·have h1:=ihj (i+1) (ns++[s]) (out++[y]) (by omega) (by omega) (by rw [List.length_append];simp only [List.length_cons,List.length_nil];omega) (by rw [List.length_append];simp only [List.length_cons,List.length_nil];omega)
   rw [List.append_assoc,List.append_assoc] at h1
   rw [ht _ rfl]
   exact loop_next (hb ns out hn ho) h1
  ·rw [ht]
   exact loop_next (hb ns out) (ihj (i+1) ns out (by omega) (by omega) (by omega) (by omega))
theorem apply40 (b:Bool):∀ (n:Nat) (v:JV) (ps:List (List (List UInt8))),sizeV v<n->cntV v<=2 ^ 30->ps.length<=2 ^ 30->cB ps=false->(∀ p ∈ ps,p ≠ [])->ps ≠ []->Pure Tryz.prog W 40 [fA ps b,encV v] (encV (thrV b ps v))
 | 0,_,_,h,_,_,_,_,_=>by omega
 | n+1,.mk h l,ps,hs,hc,hpl,hB,hne,h0=>by
  have hln:=cntV_len (.mk h l)
  simp only [JV.items,JV.names,JV.hd] at hln
  have ih:∀ (i:Nat) (x:JV),l[i]?=some x->∀ (rs:List (List (List UInt8))),rs.length<=2 ^ 30->cB rs=false->(∀ p ∈ rs,p ≠ [])->rs ≠ []->Pure Tryz.prog W 40 [fA rs b,encV x] (encV (thrV b rs x)):=fun i x hx rs h1 h2 h3 h4 =>
   apply40 b n x rs (by have:=sizeV_item (v:=.mk h l) hx;omega) (by have:=cntV_item (v:=.mk h l) hx;omega) h1 h2 h3 h4
  have c0:decide (((ppA ps).length:Int)=0)=false:=by
   rw [ppA_len];refine decide_eq_false fun q=>h0 (List.length_eq_zero_iff.1 (by omega))
  have hc61:=mut_of_pure (by simp [cloL,encV_clo]) (parts61 W (.mk h l))
  have hdp:deepB (.mk h l)=true ↔ (h.kind=6\/h.kind=5):=by rw [show deepB (.mk h l)=(decide (h.kind=6) || decide (h.kind=5)) from rfl,Bool.or_eq_true,decide_eq_true_eq,decide_eq_true_eq]
  by_cases k5:h.kind=5
  ·have c5:=decide_eq_true k5
   rw [hdp.2 (.inr k5)] at hc61
   have hlp:=loop40l W ps b h l (by omega) (fun i x hx=>ih i x hx ps hpl hB hne h0) l.length 0 [] (by omega) (by omega) (Nat.le_refl _)
   rw [thrV,if_pos k5]
   rw [List.drop_zero,List.nil_append] at hlp
   generalize thrL b ps l=out at hlp ⊢
   rw [<-k5]
   clear ih hdp
   have hM:=mut_of_sfun mixedz call40h rfl (p40_1 W h l out ps b true) Tg_z2
   refine pure_leR ?_ (pure_frz [(100004,.arr 25 5 (encVs out) .own)] (r':=.agg [iA h.kind,iA 0,.str [],.val (.slice none 0 0),.sl 5 (encVs out) []]) hM (frz2 rfl (encVs_clo out)) ?_ ?_)
   ·exact .agg (.cons (.refl _) (.cons (.refl _) (.cons (.refl _) (.cons (.nil 1) (.cons (.refl _) .nil)))))
   ·simp [clA,clL,lk,iA,<-encVs_len out]
   ·simp [AV.clo,cloL,encVs_clo,iA]
  have c5:=decide_eq_false k5
  by_cases k6:h.kind=6
  ·rw [hdp.2 (.inl k6)] at hc61
   have hmin:(JV.mk h l).mem=l.length\/(JV.mk h l).mem=h.names.length:=by rw [mem_mk];split<;>omega
   have hmn:=JV.mem_names (.mk h l)
   have hml:=JV.mem_items (.mk h l)
   simp only [JV.items,JV.names,JV.hd] at hmn hml
   have hlp:=loop40o W h l ps b (JV.mk h l).mem rfl (by omega) hmn hml hmin hne hpl hB ih (JV.mk h l).mem 0 [] [] (by omega) (by omega) (Nat.le_refl _) (Nat.le_refl _)
   rw [thrV,if_neg k5,if_pos k6]
   rw [List.drop_zero,List.drop_zero,List.nil_append,List.nil_append] at hlp
   generalize (thrM b ps h.names l).1=ns at hlp ⊢
   generalize (thrM b ps h.names l).2=out at hlp ⊢
   rw [<-k6]
   clear ih hdp hmin hmn hml
   have hM:=mut_of_sfun mixedz call40h rfl (p40o_1 W h l out ps ns b true) Tg_z2
   refine pure_frz [(100004,.arr 9 1 (ns.map AV.str) .own),(100005,.arr 25 5 (encVs out) .own)] hM ?_ ?_ (encV_clo _)
   ·intro p hp
    simp only [List.mem_cons,List.not_mem_nil,or_false] at hp
    rcases hp with rfl|rfl
    ·exact ⟨rfl,cloL_str _⟩
    ·exact ⟨rfl,encVs_clo _⟩
   ·have e1:List.take ns.length (List.map AV.str ns)=List.map AV.str ns:=List.take_of_length_le (by simp)
    simp [clA,clL,lk,iA,encV,<-encVs_len out,e1]
  have nd:deepB (.mk h l)=false:=by cases hd:deepB (.mk h l) with|false=>rfl|true=>exact absurd (hdp.1 hd) (by simp [k6,k5])
  rw [nd] at hc61
  rw [thrV,if_neg k5,if_neg k6]
  exact pure_of_mut (encV_clo _) (mut_of_sfun mixedz call40h rfl (q40_0 W h l ps b false) Tg_z2)
def fldV (ps:List (List (List UInt8))) (b:Bool) (v:JV):JV:=if ps=[] then v else thrV b ps v
theorem rapply (b:Bool) (v:JV) (ps:List (List (List UInt8))) (hc:cntV v<=2 ^ 30) (hp:pthOk ps):Pure Tryz.prog W 40 [fA ps b,encV v] (encV (fldV ps b v)):=by
 unfold fldV
 by_cases h0:ps=[]
 ·rw [if_pos h0]
  obtain ⟨h,l⟩:=v
  have c0:decide (((ppA ps).length:Int)=0)=true:=by rw [h0];rfl
  exact pure_of_mut (encV_clo _) (mut_of_sfun mixedz call40h rfl (r40_0 W h l ps b) Tg_z2)
 ·rw [if_neg h0]
  obtain ⟨h1,h2,h3⟩:=hp
  exact apply40 W b _ v ps (Nat.lt_succ_self _) hc (by omega) h2 h3 h0
end
end Go.Ac

namespace Go.Ac
open Go Go.Proofs
set_option maxRecDepth 10000
set_option maxHeartbeats 1000000
structure RQ where
 op:Int
 inn:List UInt8
 id:List UInt8
 vh:JH
 vl:List JV
 ver:Int
 oh:JH
 ol:List JV
 fh:JH
 fl:List JV
 ups:Bool
 nw:Bool
 gh:JH
 gl:List JV
 ah:JH
 al:List JV
 bh:JH
 bl:List JV
 skip:Int
 lim:Int
 path:List UInt8
 ph:JH
 pl:List JV
 aft:Int
 sb:Option Addr
 sn:Nat
 sc:Nat
 mode:Int
 batch:Int
 cur:Int
 most:Int
 ch:JH
 cl:List JV
 name:List UInt8
 uni:Bool
structure OC where
 e:Int
 wk:List UInt8
 wv:Int
 wh:JH
 wl:List JV
 th:Bool
 xk:List UInt8
 xv:Int
 xh:JH
 xl:List JV
 is:Bool
 ch:Bool
 fr:Bool
def reqA (q:RQ):AV:=.agg [iA q.op,.str q.inn,.str q.id,iA q.vh.kind,iA q.vh.int,.str q.vh.text,.sl 1 (q.vh.names.map AV.str) [],.sl 5 (encVs q.vl) [],iA q.ver,iA q.oh.kind,iA q.oh.int,.str q.oh.text,.sl 1 (q.oh.names.map AV.str) [],.sl 5 (encVs q.ol) [],iA q.fh.kind,iA q.fh.int,.str q.fh.text,.sl 1 (q.fh.names.map AV.str) [],.sl 5 (encVs q.fl) [],bA q.ups,bA q.nw,iA q.gh.kind,iA q.gh.int,.str q.gh.text,.sl 1 (q.gh.names.map AV.str) [],.sl 5 (encVs q.gl) [],iA q.ah.kind,iA q.ah.int,.str q.ah.text,.sl 1 (q.ah.names.map AV.str) [],.sl 5 (encVs q.al) [],iA q.bh.kind,iA q.bh.int,.str q.bh.text,.sl 1 (q.bh.names.map AV.str) [],.sl 5 (encVs q.bl) [],iA q.skip,iA q.lim,.str q.path,iA q.ph.kind,iA q.ph.int,.str q.ph.text,.sl 1 (q.ph.names.map AV.str) [],.sl 5 (encVs q.pl) [],iA q.aft,.val (.slice q.sb q.sn q.sc),iA q.mode,iA q.batch,iA q.cur,iA q.most,iA q.ch.kind,iA q.ch.int,.str q.ch.text,.sl 1 (q.ch.names.map AV.str) [],.sl 5 (encVs q.cl) [],.str q.name,bA q.uni]
def outA (o:OC):AV:=.agg [iA o.e,.str o.wk,iA o.wv,iA o.wh.kind,iA o.wh.int,.str o.wh.text,.sl 1 (o.wh.names.map AV.str) [],.sl 5 (encVs o.wl) [],bA o.th,.str o.xk,iA o.xv,iA o.xh.kind,iA o.xh.int,.str o.xh.text,.sl 1 (o.xh.names.map AV.str) [],.sl 5 (encVs o.xl) [],bA o.is,bA o.ch,bA o.fr]
theorem sta_0 (W:World) (r:RQ) (o:OC):sF W {lp:=true,ol:=true,tl:=[39,40]} 22 [reqA r,outA o] [] 100000 [bt,bt,ee] []=.ok (.ret (.agg [iA 0,iA 0,.str [],.val (Value.slice none 0 0),.val (Value.slice none 0 0)]) [],[ee],[(!o.is)=true,r.nw=true]):=kr
theorem stb_0 (W:World) (r:RQ) (o:OC) (ps:List (List (List UInt8))) (e2:Int) (b:Bool):sF W {lp:=true,ol:=true,tl:=[39,40]} 22 [reqA r,outA o] [] 100000 [bt,bf,ee,.lg,ee,cR (.tup [.agg [sL 1 (ppA ps),bA b],iA e2]) [],bt,ee] []=.ok (.ret (.agg [iA o.xh.kind,iA o.xh.int,.str o.xh.3,sL 1 (List.map AV.str o.xh.names),sL 5 (encVs o.xl)]) [],[ee],[(!decide (e2=0))=true,MZ W 39 [.agg [iA r.gh.kind,iA r.gh.int,.str r.gh.3,sL 1 (List.map AV.str r.gh.names),sL 5 (encVs r.gl)]] [] (.ret (.tup [.agg [sL 1 (ppA ps),bA b],iA e2]) []),cloHs [],(!o.is)=false,r.nw=true]):=kr
theorem stc_0 (W:World) (r:RQ) (o:OC) (hy:JH) (ly:List JV) (ps:List (List (List UInt8))) (e2:Int) (b:Bool):sF W {lp:=true,ol:=true,tl:=[39,40]} 22 [reqA r,outA o] [] 100000 [bt,bf,ee,.lg,ee,cR (.tup [.agg [sL 1 (ppA ps),bA b],iA e2]) [],bf,ee,.lg,ee,cR (eV hy ly) [],ee] []=.ok (.ret (eV hy ly) [],[ee],[MZ W 40 [.agg [sL 1 (ppA ps),bA b],.agg [iA o.xh.kind,iA o.xh.int,.str o.xh.3,sL 1 (List.map AV.str o.xh.names),sL 5 (encVs o.xl)]] [] (.ret (eV hy ly) []),cloHs [],(!decide (e2=0))=false,MZ W 39 [.agg [iA r.gh.kind,iA r.gh.int,.str r.gh.3,sL 1 (List.map AV.str r.gh.names),sL 5 (encVs r.gl)]] [] (.ret (.tup [.agg [sL 1 (ppA ps),bA b],iA e2]) []),cloHs [],(!o.is)=false,r.nw=true]):=kr
theorem sfa_0 (W:World) (r:RQ) (o:OC):sF W {lp:=true,ol:=true,tl:=[39,40]} 22 [reqA r,outA o] [] 100000 [bf,bt,ee] []=.ok (.ret (.agg [iA 0,iA 0,.str [],.val (Value.slice none 0 0),.val (Value.slice none 0 0)]) [],[ee],[(!o.th)=true,r.nw=false]):=kr
theorem sfb_0 (W:World) (r:RQ) (o:OC) (ps:List (List (List UInt8))) (e2:Int) (b:Bool):sF W {lp:=true,ol:=true,tl:=[39,40]} 22 [reqA r,outA o] [] 100000 [bf,bf,ee,.lg,ee,cR (.tup [.agg [sL 1 (ppA ps),bA b],iA e2]) [],bt,ee] []=.ok (.ret (.agg [iA o.wh.kind,iA o.wh.int,.str o.wh.3,sL 1 (List.map AV.str o.wh.names),sL 5 (encVs o.wl)]) [],[ee],[(!decide (e2=0))=true,MZ W 39 [.agg [iA r.gh.kind,iA r.gh.int,.str r.gh.3,sL 1 (List.map AV.str r.gh.names),sL 5 (encVs r.gl)]] [] (.ret (.tup [.agg [sL 1 (ppA ps),bA b],iA e2]) []),cloHs [],(!o.th)=false,r.nw=false]):=kr
theorem sfc_0 (W:World) (r:RQ) (o:OC) (hy:JH) (ly:List JV) (ps:List (List (List UInt8))) (e2:Int) (b:Bool):sF W {lp:=true,ol:=true,tl:=[39,40]} 22 [reqA r,outA o] [] 100000 [bf,bf,ee,.lg,ee,cR (.tup [.agg [sL 1 (ppA ps),bA b],iA e2]) [],bf,ee,.lg,ee,cR (eV hy ly) [],ee] []=.ok (.ret (eV hy ly) [],[ee],[MZ W 40 [.agg [sL 1 (ppA ps),bA b],.agg [iA o.wh.kind,iA o.wh.int,.str o.wh.3,sL 1 (List.map AV.str o.wh.names),sL 5 (encVs o.wl)]] [] (.ret (eV hy ly) []),cloHs [],(!decide (e2=0))=false,MZ W 39 [.agg [iA r.gh.kind,iA r.gh.int,.str r.gh.3,sL 1 (List.map AV.str r.gh.names),sL 5 (encVs r.gl)]] [] (.ret (.tup [.agg [sL 1 (ppA ps),bA b],iA e2]) []),cloHs [],(!o.th)=false,r.nw=false]):=kr
theorem f27_0 (W:World) (b:Bool):sF W {lp:=true,ol:=true,tl:=[]} 27 [bA b] [] 100000 [bt,ee] []=.ok (.ret (.agg [iA 2,iA 0,.str [],.val (Value.slice none 0 0),.val (Value.slice none 0 0)]) [],[ee],[b=true]):=kr
theorem f27_1 (W:World) (b:Bool):sF W {lp:=true,ol:=true,tl:=[]} 27 [bA b] [] 100000 [bf,ee] []=.ok (.ret (.agg [iA 1,iA 0,.str [],.val (Value.slice none 0 0),.val (Value.slice none 0 0)]) [],[ee],[b=false]):=kr
theorem f21_0 (W:World) (b:Bool):sF W {lp:=true,ol:=true,tl:=[]} 21 [bA b] [] 100000 [bt,ee] []=.ok (.ret (.agg [iA 2,iA 0,.str [],.val (Value.slice none 0 0),.val (Value.slice none 0 0)]) [],[ee],[b=true]):=kr
theorem f21_1 (W:World) (b:Bool):sF W {lp:=true,ol:=true,tl:=[]} 21 [bA b] [] 100000 [bf,ee] []=.ok (.ret (.agg [iA 1,iA 0,.str [],.val (Value.slice none 0 0),.val (Value.slice none 0 0)]) [],[ee],[b=false]):=kr
theorem k11_0 (W:World) (o:OC):sF W {lp:=true,ol:=true,tl:=[]} 11 [outA o] [] 100000 [bt,ee] []=.ok (.ret (iA 0) [],[ee],[(!o.ch)=true]):=kr
theorem k11_1 (W:World) (o:OC):sF W {lp:=true,ol:=true,tl:=[]} 11 [outA o] [] 100000 [bf,bt,ee] []=.ok (.ret (iA 1) [],[ee],[(!o.th)=true,(!o.ch)=false]):=kr
theorem k11_2 (W:World) (o:OC):sF W {lp:=true,ol:=true,tl:=[]} 11 [outA o] [] 100000 [bf,bf,bt,ee] []=.ok (.ret (iA 3) [],[ee],[(!o.is)=true,(!o.th)=false,(!o.ch)=false]):=kr
theorem k11_3 (W:World) (o:OC):sF W {lp:=true,ol:=true,tl:=[]} 11 [outA o] [] 100000 [bf,bf,bf,ee] []=.ok (.ret (iA 2) [],[ee],[(!o.is)=false,(!o.th)=false,(!o.ch)=false]):=kr
theorem k12_0 (W:World) (o:OC):sF W {lp:=true,ol:=true,tl:=[]} 12 [outA o] [] 100000 [bt,ee] []=.ok (.ret (iA 0) [],[ee],[(!o.ch)=true]):=kr
theorem k12_1 (W:World) (o:OC):sF W {lp:=true,ol:=true,tl:=[]} 12 [outA o] [] 100000 [bf,bt,ee] []=.ok (.ret (iA 1) [],[ee],[(!o.th)=true,(!o.ch)=false]):=kr
theorem k12_2 (W:World) (o:OC):sF W {lp:=true,ol:=true,tl:=[]} 12 [outA o] [] 100000 [bf,bf,bt,ee] []=.ok (.ret (iA 3) [],[ee],[(!o.is)=true,(!o.th)=false,(!o.ch)=false]):=kr
theorem k12_3 (W:World) (o:OC):sF W {lp:=true,ol:=true,tl:=[]} 12 [outA o] [] 100000 [bf,bf,bf,ee] []=.ok (.ret (iA 2) [],[ee],[(!o.is)=false,(!o.th)=false,(!o.ch)=false]):=kr
theorem a56n_0 (W:World) (hy:JH) (ly:List JV):sF W {lp:=true,ol:=true,tl:=[]} 56 [.val (.pointer none),eV hy ly] [] 100000 [ee] []=.ok (.ret (eV hy ly) [],[aE 9999992],[]):=kr
theorem a56_0 (W:World) (hy:JH) (ly:List JV) (ps:List (List (List UInt8))) (b:Bool):sF W {lp:=true,ol:=true,tl:=[]} 56 [.ip (fA ps b) 0,eV hy ly] [] 100000 [aE 7,bt,ee] []=.ok (.ret (eV hy ly) [],[ee],[decide ((↑(ppA ps).length:Int)=0)=true]):=kr
theorem Th_z2 {cs} (h:Holds cs:=by simp only [Holds,cloHs,and_true]<;>and_intros<;>first|assumption|rfl|exact trivial):Holds cs:=h
theorem call7:callable Tryz.prog 7=true:=kr
theorem call8:callable Tryz.prog 8=true:=kr
theorem call22:callable Tryz.prog 22=true:=kr
theorem call27:callable Tryz.prog 27=true:=kr
theorem call21:callable Tryz.prog 21=true:=kr
theorem call56:callable Tryz.prog 56=true:=kr
theorem call11t:callable Tryz.prog 11=true:=kr
theorem call12t:callable Tryz.prog 12=true:=kr
def num9 (n:Int):AV:=.agg [iA 3,iA n,.str [],.val (.slice none 0 0),.val (.slice none 0 0)]
def wrd9 (s:List UInt8):AV:=.agg [iA 4,iA 0,.str s,.val (.slice none 0 0),.val (.slice none 0 0)]
def flg9 (b:Bool):AV:=.agg [iA (if b then 2 else 1),iA 0,.str [],.val (.slice none 0 0),.val (.slice none 0 0)]
def nul9:AV:=.agg [iA 0,iA 0,.str [],.val (.slice none 0 0),.val (.slice none 0 0)]
def numV (n:Int):JV:=.mk ⟨3,n,[],[]⟩ []
def wrdV (s:List UInt8):JV:=.mk ⟨4,0,s,[]⟩ []
def flgV (b:Bool):JV:=.mk ⟨if b then 2 else 1,0,[],[]⟩ []
def nulV:JV:=.mk ⟨0,0,[],[]⟩ []
theorem num_le (n:Int):Le (num9 n) (encV (numV n)):=.agg (.cons (.refl _) (.cons (.refl _) (.cons (.refl _) (.cons (.nil 1) (.cons (.nil 5) .nil)))))
theorem wrd_le (s:List UInt8):Le (wrd9 s) (encV (wrdV s)):=.agg (.cons (.refl _) (.cons (.refl _) (.cons (.refl _) (.cons (.nil 1) (.cons (.nil 5) .nil)))))
theorem flg_le (b:Bool):Le (flg9 b) (encV (flgV b)):=.agg (.cons (.refl _) (.cons (.refl _) (.cons (.refl _) (.cons (.nil 1) (.cons (.nil 5) .nil)))))
theorem nul_le:Le nul9 (encV nulV):=.agg (.cons (.refl _) (.cons (.refl _) (.cons (.refl _) (.cons (.nil 1) (.cons (.nil 5) .nil)))))
def appV:Except Int (List (List (List UInt8))×Bool)->JV->JV
 | .ok (A,C),v=>fldV A C v
 | .error _,v=>v
def shV (r:RQ) (o:OC):JV:=if r.nw then (if o.is then appV (pfV (.mk r.gh r.gl)) (.mk o.xh o.xl) else nulV) else (if o.th then appV (pfV (.mk r.gh r.gl)) (.mk o.wh o.wl) else nulV)
theorem pfR_err {N:List (List UInt8)} {l:List JV}:∀ (q i:Nat) (acc:List (List (List UInt8))) (c:Bool) {e:Int},pfR N l q i acc c=.error e->e ≠ 0
 | 0,i,acc,c,e,h=>by rw [pfR] at h;cases h
 | q+1,i,acc,c,e,h=>by
  rw [pfR] at h
  split at h
  ·split at h
   ·cases h;decide
   ·split at h
    ·cases h;decide
    ·split at h
     ·cases h;decide
     ·split at h
      ·cases h;decide
      ·split at h
       ·cases h;decide
       ·exact pfR_err q _ _ _ h
  ·cases h;decide
theorem pfV_err {v:JV} {e:Int} (h:pfV v=.error e):e ≠ 0:=by
 unfold pfV at h
 split at h
 ·cases h;decide
 ·split at h
  ·cases h;decide
  ·exact pfR_err _ _ _ _ h
theorem fld_cnt (ps:List (List (List UInt8))) (b:Bool) (v:JV):cntV (fldV ps b v)<=cntV v:=by
 unfold fldV;split
 ·exact Nat.le_refl _
 ·exact thr_cnt b ps v
theorem app_cnt (x:Except Int (List (List (List UInt8))×Bool)) (v:JV):cntV (appV x v)<=cntV v:=by
 unfold appV;split
 ·exact fld_cnt _ _ _
 ·exact Nat.le_refl _
theorem sh_cnt (r:RQ) (o:OC) (h1:cntV (.mk o.xh o.xl)<=2 ^ 30) (h2:cntV (.mk o.wh o.wl)<=2 ^ 30):cntV (shV r o)<=2 ^ 30:=by
 unfold shV
 split
 ·split
  ·exact Nat.le_trans (app_cnt _ _) h1
  ·decide
 ·split
  ·exact Nat.le_trans (app_cnt _ _) h2
  ·decide
section
variable (W:World)
theorem flag27 (b:Bool):Pure Tryz.prog W 27 [bA b] (flg9 b):=by
 cases hb:b with
 | true=>exact pure_of_mut rfl (mut_of_sfun mixedz call27 rfl (f27_0 W true) Th_z2)
 | false=>exact pure_of_mut rfl (mut_of_sfun mixedz call27 rfl (f27_1 W false) Th_z2)
theorem truth21 (b:Bool):Pure Tryz.prog W 21 [bA b] (flg9 b):=by
 cases hb:b with
 | true=>exact pure_of_mut rfl (mut_of_sfun mixedz call21 rfl (f21_0 W true) Th_z2)
 | false=>exact pure_of_mut rfl (mut_of_sfun mixedz call21 rfl (f21_1 W false) Th_z2)
def knd (o:OC):Int:=if o.ch then (if o.th then (if o.is then 2 else 3) else 1) else 0
theorem kinds (o:OC):Pure Tryz.prog W 11 [outA o] (iA (knd o))/\Pure Tryz.prog W 12 [outA o] (iA (knd o)):=by
 unfold knd
 cases h1:o.ch with
 | false =>
  have c1:(!o.ch)=true:=by rw [h1];rfl
  exact ⟨pure_of_mut rfl (mut_of_sfun mixedz call11t rfl (k11_0 W o) Th_z2),pure_of_mut rfl (mut_of_sfun mixedz call12t rfl (k12_0 W o) Th_z2)⟩
 | true =>
  have c1:(!o.ch)=false:=by rw [h1];rfl
  cases h2:o.th with
  | false =>
   have c2:(!o.th)=true:=by rw [h2];rfl
   exact ⟨pure_of_mut rfl (mut_of_sfun mixedz call11t rfl (k11_1 W o) Th_z2),pure_of_mut rfl (mut_of_sfun mixedz call12t rfl (k12_1 W o) Th_z2)⟩
  | true =>
   have c2:(!o.th)=false:=by rw [h2];rfl
   cases h3:o.is with
   | false =>
    have c3:(!o.is)=true:=by rw [h3];rfl
    exact ⟨pure_of_mut rfl (mut_of_sfun mixedz call11t rfl (k11_2 W o) Th_z2),pure_of_mut rfl (mut_of_sfun mixedz call12t rfl (k12_2 W o) Th_z2)⟩
   | true =>
    have c3:(!o.is)=false:=by rw [h3];rfl
    exact ⟨pure_of_mut rfl (mut_of_sfun mixedz call11t rfl (k11_3 W o) Th_z2),pure_of_mut rfl (mut_of_sfun mixedz call12t rfl (k12_3 W o) Th_z2)⟩
theorem apply56n (v:JV):Pure Tryz.prog W 56 [.val (.pointer none),encV v] (encV v):=by
 obtain ⟨hy,ly⟩:=v
 exact pure_of_mut (encV_clo _) (mut_of_sfun mixedz call56 rfl (a56n_0 W hy ly) Th_z2)
theorem apply56 (v:JV) (ps:List (List (List UInt8))) (b:Bool) (hc:cntV v<=2 ^ 30) (hp:pthOk ps):Pure Tryz.prog W 56 [.ip (fA ps b) 0,encV v] (encV (fldV ps b v)):=by
 unfold fldV
 by_cases h0:ps=[]
 ·rw [if_pos h0]
  obtain ⟨hy,ly⟩:=v
  have c0:decide (((ppA ps).length:Int)=0)=true:=by rw [h0];rfl
  exact pure_of_mut (encV_clo _) (mut_of_sfun mixedz call56 rfl (a56_0 W hy ly ps b) Th_z2)
 ·rw [if_neg h0]
  exact apply11 W b v ps hc (by have:=hp.1;omega) hp.2.2 h0
theorem shown22 (r:RQ) (o:OC) (hx:cntV (.mk o.xh o.xl)<=2 ^ 30) (hw:cntV (.mk o.wh o.wl)<=2 ^ 30) (hN:∀ s ∈ r.gh.names,s.length<=2 ^ 30):Pure Tryz.prog W 22 [reqA r,outA o] (encV (shV r o)):=by
 have h39:=mut_of_pure (by simp [cloL,encV_clo]) (parse39 W (.mk r.gh r.gl) hN)
 unfold shV
 cases hn:r.nw with
 | true =>
  rw [if_pos rfl]
  cases hi:o.is with
  | false =>
   have c1:(!o.is)=true:=by rw [hi];rfl
   rw [if_neg (by simp)]
   clear h39
   exact pure_leR nul_le (pure_of_mut rfl (mut_of_sfun mixedz call22 rfl (sta_0 W r o) Th_z2))
  | true =>
   have c1:(!o.is)=false:=by rw [hi];rfl
   rw [if_pos rfl]
   cases hp:pfV (.mk r.gh r.gl) with
   | error e =>
    have e0:=pfV_err hp
    have c2:(!decide (e=0))=true:=by rw [decide_eq_false e0];rfl
    rw [hp] at h39
    exact pure_of_mut (encV_clo (.mk o.xh o.xl)) (mut_of_sfun mixedz call22 rfl (stb_0 W r o [] e false) ⟨c2,h39,trivial,c1,hn,trivial⟩)
   | ok x =>
    obtain ⟨A,C⟩:=x
    rw [hp] at h39
    have h40:=mut_of_pure (by simp [cloL,encV_clo,AV.clo,fA,ppA_clo,bA]) (rapply W C (.mk o.xh o.xl) A hx (pfV_ok hp))
    have c2:(!decide ((0:Int)=0))=false:=by decide
    show Pure _ _ _ _ (encV (fldV A C (.mk o.xh o.xl)))
    generalize fldV A C (.mk o.xh o.xl)=y at h40
    obtain ⟨hy,ly⟩:=y
    exact pure_of_mut (encV_clo _) (mut_of_sfun mixedz call22 rfl (stc_0 W r o hy ly A 0 C) ⟨h40,trivial,c2,h39,trivial,c1,hn,trivial⟩)
 | false =>
  rw [if_neg (by simp)]
  cases hi:o.th with
  | false =>
   have c1:(!o.th)=true:=by rw [hi];rfl
   rw [if_neg (by simp)]
   clear h39
   exact pure_leR nul_le (pure_of_mut rfl (mut_of_sfun mixedz call22 rfl (sfa_0 W r o) Th_z2))
  | true =>
   have c1:(!o.th)=false:=by rw [hi];rfl
   rw [if_pos rfl]
   cases hp:pfV (.mk r.gh r.gl) with
   | error e =>
    have e0:=pfV_err hp
    have c2:(!decide (e=0))=true:=by rw [decide_eq_false e0];rfl
    rw [hp] at h39
    exact pure_of_mut (encV_clo (.mk o.wh o.wl)) (mut_of_sfun mixedz call22 rfl (sfb_0 W r o [] e false) ⟨c2,h39,trivial,c1,hn,trivial⟩)
   | ok x =>
    obtain ⟨A,C⟩:=x
    rw [hp] at h39
    have h40:=mut_of_pure (by simp [cloL,encV_clo,AV.clo,fA,ppA_clo,bA]) (rapply W C (.mk o.wh o.wl) A hw (pfV_ok hp))
    have c2:(!decide ((0:Int)=0))=false:=by decide
    show Pure _ _ _ _ (encV (fldV A C (.mk o.wh o.wl)))
    generalize fldV A C (.mk o.wh o.wl)=y at h40
    obtain ⟨hy,ly⟩:=y
    exact pure_of_mut (encV_clo _) (mut_of_sfun mixedz call22 rfl (sfc_0 W r o hy ly A 0 C) ⟨h40,trivial,c2,h39,trivial,c1,hn,trivial⟩)
end
end Go.Ac

namespace Go.Ac
open Go
theorem blL_strN:∀ p:List (List UInt8),∀ s ∈ p,s.length<=bl.blL (p.map AV.str)
 | []=>by simp
 | s::p=>by
  have h2:=blL_strN p
  simp only [List.map_cons,bl.blL,bl,List.mem_cons]
  intro x hx
  rcases hx with rfl|hx
  ·omega
  ·have:=h2 x hx;omega
end Go.Ac

