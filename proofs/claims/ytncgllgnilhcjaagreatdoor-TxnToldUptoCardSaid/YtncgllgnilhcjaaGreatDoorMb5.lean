/- What is proved: contracts of functions of this translation, walked; their plain meaning. No condition beyond those that each theorem names. -/
import Derived.Test.YtncgllgnilhcjaaGreatDoorMb4
import Derived.Test.YtncgllgnilhcjaaGreatDoorMa6
import Derived.Test.YtncgllgnilhcjaaGreatDoorMb1
set_option linter.all false
namespace Go.Ac
open Go Go.Proofs
set_option maxRecDepth 10000
set_option maxHeartbeats 1000000
theorem t2_0 (W:World) (r:RQ) (o:OC) (st:Int):sF W {lp:=true,ol:=true,tl:=[27,55,56]} 7 [reqA r,outA o,iA st] [] 100000 [aE 1,bt,aE 4,bf,ee] []=.ok (.ret (.tup [.gs 100005 0 2,.gs 100006 0 2]) [(100005,.arr 9 1 [.str [105,100],.str [118,101,114,115,105,111,110]] .own),(100006,.arr 25 5 [.agg [iA 4,iA 0,.str r.3,.val (Value.slice none 0 0),.val (Value.slice none 0 0)],.agg [iA 3,iA o.xv,.str [],.val (Value.slice none 0 0),.val (Value.slice none 0 0)]] .own)],[aE 9999996],[(!decide (o.e=0))=false,decide (r.op=2)=true]):=kr
theorem t3_0 (W:World) (r:RQ) (o:OC) (st:Int):sF W {lp:=true,ol:=true,tl:=[27,55,56]} 7 [reqA r,outA o,iA st] [] 100000 [aE 1,bf,bt,aE 4,bf,ee,.lg,ee,cR (.agg [iA (if o.ch=true then 2 else 1),iA 0,.str [],.val (Value.slice none 0 0),.val (Value.slice none 0 0)]) [],ee] []=.ok (.ret (.tup [.gs 100005 0 2,.gs 100006 0 2]) [(100005,.arr 9 1 [.str [118,101,114,115,105,111,110],.str [99,104,97,110,103,101,100]] .own),(100006,.arr 25 5 [.agg [iA 3,iA o.xv,.str [],.val (Value.slice none 0 0),.val (Value.slice none 0 0)],.agg [iA (if o.ch=true then 2 else 1),iA 0,.str [],.val (Value.slice none 0 0),.val (Value.slice none 0 0)]] .own)],[aE 9999999],[MZ W 27 [bA o.ch] [] (.ret (.agg [iA (if o.ch=true then 2 else 1),iA 0,.str [],.val (Value.slice none 0 0),.val (Value.slice none 0 0)]) []),cloHs [],(!decide (o.e=0))=false,decide (r.op=3)=true,decide (r.op=2)=false]):=kr
theorem t4_0 (W:World) (r:RQ) (o:OC) (st:Int):sF W {lp:=true,ol:=true,tl:=[27,55,56]} 7 [reqA r,outA o,iA st] [] 100000 [aE 1,bf,bf,bt,aE 4,bf,ee,.lg,ee,cR (.agg [iA (if o.ch=true then 2 else 1),iA 0,.str [],.val (Value.slice none 0 0),.val (Value.slice none 0 0)]) [],ee,.lg,ee,cR (.agg [iA (if o.fr=true then 2 else 1),iA 0,.str [],.val (Value.slice none 0 0),.val (Value.slice none 0 0)]) [],ee] []=.ok (.ret (.tup [.gs 100010 0 3,.gs 100012 0 3]) [(100010,.arr 9 1 [.str [118,101,114,115,105,111,110],.str [99,104,97,110,103,101,100],.str [102,114,101,115,104]] .own),(100012,.arr 25 5 [.agg [iA 3,iA o.xv,.str [],.val (Value.slice none 0 0),.val (Value.slice none 0 0)],.agg [iA (if o.ch=true then 2 else 1),iA 0,.str [],.val (Value.slice none 0 0),.val (Value.slice none 0 0)],.agg [iA (if o.fr=true then 2 else 1),iA 0,.str [],.val (Value.slice none 0 0),.val (Value.slice none 0 0)]] .own)],[aE 9999997],[MZ W 27 [bA o.fr] [] (.ret (.agg [iA (if o.fr=true then 2 else 1),iA 0,.str [],.val (Value.slice none 0 0),.val (Value.slice none 0 0)]) []),cloHs [],MZ W 27 [bA o.ch] [] (.ret (.agg [iA (if o.ch=true then 2 else 1),iA 0,.str [],.val (Value.slice none 0 0),.val (Value.slice none 0 0)]) []),cloHs [],(!decide (o.e=0))=false,decide (r.op=4)=true,decide (r.op=3)=false,decide (r.op=2)=false]):=kr
theorem t6_0 (W:World) (r:RQ) (o:OC) (st:Int):sF W {lp:=true,ol:=true,tl:=[27,55,56]} 7 [reqA r,outA o,iA st] [] 100000 [aE 1,bf,bf,bf,bf,bt,aE 4,bf,ee] []=.ok (.ret (.tup [.gs 100005 0 1,.gs 100006 0 1]) [(100005,.arr 9 1 [.str [118,101,114,115,105,111,110]] .own),(100006,.arr 25 5 [.agg [iA 3,iA st,.str [],.val (Value.slice none 0 0),.val (Value.slice none 0 0)]] .own)],[aE 9999997],[(!decide (o.e=0))=false,decide (r.op=6)=true,decide (r.op=5)=false,decide (r.op=4)=false,decide (r.op=3)=false,decide (r.op=2)=false]):=kr
theorem te_0 (W:World) (r:RQ) (o:OC) (st:Int):sF W {lp:=true,ol:=true,tl:=[27,55,56]} 7 [reqA r,outA o,iA st] [] 100000 [aE 1,bt,aE 4,bt,ee] []=.ok (.ret (.tup [.val (Value.slice none 0 0),.val (Value.slice none 0 0)]) [],[ee],[(!decide (o.e=0))=true,decide (r.op=2)=true]):=kr
theorem te_1 (W:World) (r:RQ) (o:OC) (st:Int):sF W {lp:=true,ol:=true,tl:=[27,55,56]} 7 [reqA r,outA o,iA st] [] 100000 [aE 1,bf,bt,aE 4,bt,ee] []=.ok (.ret (.tup [.val (Value.slice none 0 0),.val (Value.slice none 0 0)]) [],[ee],[(!decide (o.e=0))=true,decide (r.op=3)=true,decide (r.op=2)=false]):=kr
theorem te_2 (W:World) (r:RQ) (o:OC) (st:Int):sF W {lp:=true,ol:=true,tl:=[27,55,56]} 7 [reqA r,outA o,iA st] [] 100000 [aE 1,bf,bf,bt,aE 4,bt,ee] []=.ok (.ret (.tup [.val (Value.slice none 0 0),.val (Value.slice none 0 0)]) [],[ee],[(!decide (o.e=0))=true,decide (r.op=4)=true,decide (r.op=3)=false,decide (r.op=2)=false]):=kr
theorem te_3 (W:World) (r:RQ) (o:OC) (st:Int):sF W {lp:=true,ol:=true,tl:=[27,55,56]} 7 [reqA r,outA o,iA st] [] 100000 [aE 1,bf,bf,bf,bt,aE 4,bt,ee] []=.ok (.ret (.tup [.val (Value.slice none 0 0),.val (Value.slice none 0 0)]) [],[ee],[(!decide (o.e=0))=true,decide (r.op=5)=true,decide (r.op=4)=false,decide (r.op=3)=false,decide (r.op=2)=false]):=kr
theorem te_4 (W:World) (r:RQ) (o:OC) (st:Int):sF W {lp:=true,ol:=true,tl:=[27,55,56]} 7 [reqA r,outA o,iA st] [] 100000 [aE 1,bf,bf,bf,bf,bt,aE 4,bt,ee] []=.ok (.ret (.tup [.val (Value.slice none 0 0),.val (Value.slice none 0 0)]) [],[ee],[(!decide (o.e=0))=true,decide (r.op=6)=true,decide (r.op=5)=false,decide (r.op=4)=false,decide (r.op=3)=false,decide (r.op=2)=false]):=kr
theorem te_5 (W:World) (r:RQ) (o:OC) (st:Int):sF W {lp:=true,ol:=true,tl:=[27,55,56]} 7 [reqA r,outA o,iA st] [] 100000 [aE 1,bf,bf,bf,bf,bf,ee] []=.ok (.ret (.tup [.val (Value.slice none 0 0),.val (Value.slice none 0 0)]) [],[aE 9999995],[decide (r.op=6)=false,decide (r.op=5)=false,decide (r.op=4)=false,decide (r.op=3)=false,decide (r.op=2)=false]):=kr
theorem t5ta_0 (W:World) (r:RQ) (o:OC) (st:Int):sF W {lp:=true,ol:=true,tl:=[27,55,56]} 7 [reqA r,outA o,iA st] [] 100000 [aE 1,bf,bf,bf,bt,aE 4,bf,ee,.lg,ee,cR (.agg [iA (if o.ch=true then 2 else 1),iA 0,.str [],.val (Value.slice none 0 0),.val (Value.slice none 0 0)]) [],ee,.lg,ee,cR (.agg [iA (if o.fr=true then 2 else 1),iA 0,.str [],.val (Value.slice none 0 0),.val (Value.slice none 0 0)]) [],aE 3,bt,bt,ee] []=.ok (.ret (.tup [.gs 100017 0 4,.gs 100019 0 4]) [(100017,.arr 9 1 [.str [118,101,114,115,105,111,110],.str [99,104,97,110,103,101,100],.str [102,114,101,115,104],.str [118,97,108,117,101]] .own),(100019,.arr 25 5 [.agg [iA 3,iA o.xv,.str [],.val (Value.slice none 0 0),.val (Value.slice none 0 0)],.agg [iA (if o.ch=true then 2 else 1),iA 0,.str [],.val (Value.slice none 0 0),.val (Value.slice none 0 0)],.agg [iA (if o.fr=true then 2 else 1),iA 0,.str [],.val (Value.slice none 0 0),.val (Value.slice none 0 0)],.agg [iA 0,iA 0,.str [],.val (Value.slice none 0 0),.val (Value.slice none 0 0)]] .own)],[aE 9999994],[(!o.is)=true,r.nw=true,MZ W 27 [bA o.fr] [] (.ret (.agg [iA (if o.fr=true then 2 else 1),iA 0,.str [],.val (Value.slice none 0 0),.val (Value.slice none 0 0)]) []),cloHs [],MZ W 27 [bA o.ch] [] (.ret (.agg [iA (if o.ch=true then 2 else 1),iA 0,.str [],.val (Value.slice none 0 0),.val (Value.slice none 0 0)]) []),cloHs [],(!decide (o.e=0))=false,decide (r.op=5)=true,decide (r.op=4)=false,decide (r.op=3)=false,decide (r.op=2)=false]):=kr
theorem t5tb_0 (W:World) (r:RQ) (o:OC) (hy:JH) (ly:List JV) (st e2:Int):sF W {lp:=true,ol:=true,tl:=[27,55,56]} 7 [reqA r,outA o,iA st] [] 100000 [aE 1,bf,bf,bf,bt,aE 4,bf,ee,.lg,ee,cR (.agg [iA (if o.ch=true then 2 else 1),iA 0,.str [],.val (Value.slice none 0 0),.val (Value.slice none 0 0)]) [],ee,.lg,ee,cR (.agg [iA (if o.fr=true then 2 else 1),iA 0,.str [],.val (Value.slice none 0 0),.val (Value.slice none 0 0)]) [],aE 3,bt,bf,ee,.lg,ee,cR (.tup [.val (Value.pointer none),iA e2]) [],ee,.lg,ee,cR (eV hy ly) [],ee] []=.ok (.ret (.tup [.gs 100017 0 4,.gs 100019 0 4]) [(100017,.arr 9 1 [.str [118,101,114,115,105,111,110],.str [99,104,97,110,103,101,100],.str [102,114,101,115,104],.str [118,97,108,117,101]] .own),(100019,.arr 25 5 [.agg [iA 3,iA o.xv,.str [],.val (Value.slice none 0 0),.val (Value.slice none 0 0)],.agg [iA (if o.ch=true then 2 else 1),iA 0,.str [],.val (Value.slice none 0 0),.val (Value.slice none 0 0)],.agg [iA (if o.fr=true then 2 else 1),iA 0,.str [],.val (Value.slice none 0 0),.val (Value.slice none 0 0)],eV hy ly] .own)],[aE 9999997],[MZ W 56 [.val (Value.pointer none),.agg [iA o.xh.kind,iA o.xh.int,.str o.xh.3,sL 1 (List.map AV.str o.xh.names),sL 5 (encVs o.xl)]] [] (.ret (eV hy ly) []),cloHs [],MZ W 55 [.agg [iA r.gh.kind,iA r.gh.int,.str r.gh.3,sL 1 (List.map AV.str r.gh.names),sL 5 (encVs r.gl)]] [] (.ret (.tup [.val (Value.pointer none),iA e2]) []),cloHs [],(!o.is)=false,r.nw=true,MZ W 27 [bA o.fr] [] (.ret (.agg [iA (if o.fr=true then 2 else 1),iA 0,.str [],.val (Value.slice none 0 0),.val (Value.slice none 0 0)]) []),cloHs [],MZ W 27 [bA o.ch] [] (.ret (.agg [iA (if o.ch=true then 2 else 1),iA 0,.str [],.val (Value.slice none 0 0),.val (Value.slice none 0 0)]) []),cloHs [],(!decide (o.e=0))=false,decide (r.op=5)=true,decide (r.op=4)=false,decide (r.op=3)=false,decide (r.op=2)=false]):=kr
theorem t5tc_0 (W:World) (r:RQ) (o:OC) (hy:JH) (ly:List JV) (ps:List (List (List UInt8))) (st:Int) (b:Bool):sF W {lp:=true,ol:=true,tl:=[27,55,56]} 7 [reqA r,outA o,iA st] [] 100000 [aE 1,bf,bf,bf,bt,aE 4,bf,ee,.lg,ee,cR (.agg [iA (if o.ch=true then 2 else 1),iA 0,.str [],.val (Value.slice none 0 0),.val (Value.slice none 0 0)]) [],ee,.lg,ee,cR (.agg [iA (if o.fr=true then 2 else 1),iA 0,.str [],.val (Value.slice none 0 0),.val (Value.slice none 0 0)]) [],aE 3,bt,bf,ee,.lg,ee,cR (.tup [(fA ps b).ip 0,iA 0]) [],ee,.lg,ee,cR (eV hy ly) [],ee] []=.ok (.ret (.tup [.gs 100017 0 4,.gs 100019 0 4]) [(100017,.arr 9 1 [.str [118,101,114,115,105,111,110],.str [99,104,97,110,103,101,100],.str [102,114,101,115,104],.str [118,97,108,117,101]] .own),(100019,.arr 25 5 [.agg [iA 3,iA o.xv,.str [],.val (Value.slice none 0 0),.val (Value.slice none 0 0)],.agg [iA (if o.ch=true then 2 else 1),iA 0,.str [],.val (Value.slice none 0 0),.val (Value.slice none 0 0)],.agg [iA (if o.fr=true then 2 else 1),iA 0,.str [],.val (Value.slice none 0 0),.val (Value.slice none 0 0)],eV hy ly] .own)],[aE 9999997],[MZ W 56 [(AV.agg [sL 1 (ppA ps),bA b]).ip 0,.agg [iA o.xh.kind,iA o.xh.int,.str o.xh.3,sL 1 (List.map AV.str o.xh.names),sL 5 (encVs o.xl)]] [] (.ret (eV hy ly) []),cloHs [],MZ W 55 [.agg [iA r.gh.kind,iA r.gh.int,.str r.gh.3,sL 1 (List.map AV.str r.gh.names),sL 5 (encVs r.gl)]] [] (.ret (.tup [(AV.agg [sL 1 (ppA ps),bA b]).ip 0,iA 0]) []),cloHs [],(!o.is)=false,r.nw=true,MZ W 27 [bA o.fr] [] (.ret (.agg [iA (if o.fr=true then 2 else 1),iA 0,.str [],.val (Value.slice none 0 0),.val (Value.slice none 0 0)]) []),cloHs [],MZ W 27 [bA o.ch] [] (.ret (.agg [iA (if o.ch=true then 2 else 1),iA 0,.str [],.val (Value.slice none 0 0),.val (Value.slice none 0 0)]) []),cloHs [],(!decide (o.e=0))=false,decide (r.op=5)=true,decide (r.op=4)=false,decide (r.op=3)=false,decide (r.op=2)=false]):=kr
theorem t5fa_0 (W:World) (r:RQ) (o:OC) (st:Int):sF W {lp:=true,ol:=true,tl:=[27,55,56]} 7 [reqA r,outA o,iA st] [] 100000 [aE 1,bf,bf,bf,bt,aE 4,bf,ee,.lg,ee,cR (.agg [iA (if o.ch=true then 2 else 1),iA 0,.str [],.val (Value.slice none 0 0),.val (Value.slice none 0 0)]) [],ee,.lg,ee,cR (.agg [iA (if o.fr=true then 2 else 1),iA 0,.str [],.val (Value.slice none 0 0),.val (Value.slice none 0 0)]) [],aE 3,bf,bt,ee] []=.ok (.ret (.tup [.gs 100017 0 4,.gs 100019 0 4]) [(100017,.arr 9 1 [.str [118,101,114,115,105,111,110],.str [99,104,97,110,103,101,100],.str [102,114,101,115,104],.str [118,97,108,117,101]] .own),(100019,.arr 25 5 [.agg [iA 3,iA o.xv,.str [],.val (Value.slice none 0 0),.val (Value.slice none 0 0)],.agg [iA (if o.ch=true then 2 else 1),iA 0,.str [],.val (Value.slice none 0 0),.val (Value.slice none 0 0)],.agg [iA (if o.fr=true then 2 else 1),iA 0,.str [],.val (Value.slice none 0 0),.val (Value.slice none 0 0)],.agg [iA 0,iA 0,.str [],.val (Value.slice none 0 0),.val (Value.slice none 0 0)]] .own)],[aE 9999994],[(!o.th)=true,r.nw=false,MZ W 27 [bA o.fr] [] (.ret (.agg [iA (if o.fr=true then 2 else 1),iA 0,.str [],.val (Value.slice none 0 0),.val (Value.slice none 0 0)]) []),cloHs [],MZ W 27 [bA o.ch] [] (.ret (.agg [iA (if o.ch=true then 2 else 1),iA 0,.str [],.val (Value.slice none 0 0),.val (Value.slice none 0 0)]) []),cloHs [],(!decide (o.e=0))=false,decide (r.op=5)=true,decide (r.op=4)=false,decide (r.op=3)=false,decide (r.op=2)=false]):=kr
theorem t5fb_0 (W:World) (r:RQ) (o:OC) (hy:JH) (ly:List JV) (st e2:Int):sF W {lp:=true,ol:=true,tl:=[27,55,56]} 7 [reqA r,outA o,iA st] [] 100000 [aE 1,bf,bf,bf,bt,aE 4,bf,ee,.lg,ee,cR (.agg [iA (if o.ch=true then 2 else 1),iA 0,.str [],.val (Value.slice none 0 0),.val (Value.slice none 0 0)]) [],ee,.lg,ee,cR (.agg [iA (if o.fr=true then 2 else 1),iA 0,.str [],.val (Value.slice none 0 0),.val (Value.slice none 0 0)]) [],aE 3,bf,bf,ee,.lg,ee,cR (.tup [.val (Value.pointer none),iA e2]) [],ee,.lg,ee,cR (eV hy ly) [],ee] []=.ok (.ret (.tup [.gs 100017 0 4,.gs 100019 0 4]) [(100017,.arr 9 1 [.str [118,101,114,115,105,111,110],.str [99,104,97,110,103,101,100],.str [102,114,101,115,104],.str [118,97,108,117,101]] .own),(100019,.arr 25 5 [.agg [iA 3,iA o.xv,.str [],.val (Value.slice none 0 0),.val (Value.slice none 0 0)],.agg [iA (if o.ch=true then 2 else 1),iA 0,.str [],.val (Value.slice none 0 0),.val (Value.slice none 0 0)],.agg [iA (if o.fr=true then 2 else 1),iA 0,.str [],.val (Value.slice none 0 0),.val (Value.slice none 0 0)],eV hy ly] .own)],[aE 9999997],[MZ W 56 [.val (Value.pointer none),.agg [iA o.wh.kind,iA o.wh.int,.str o.wh.3,sL 1 (List.map AV.str o.wh.names),sL 5 (encVs o.wl)]] [] (.ret (eV hy ly) []),cloHs [],MZ W 55 [.agg [iA r.gh.kind,iA r.gh.int,.str r.gh.3,sL 1 (List.map AV.str r.gh.names),sL 5 (encVs r.gl)]] [] (.ret (.tup [.val (Value.pointer none),iA e2]) []),cloHs [],(!o.th)=false,r.nw=false,MZ W 27 [bA o.fr] [] (.ret (.agg [iA (if o.fr=true then 2 else 1),iA 0,.str [],.val (Value.slice none 0 0),.val (Value.slice none 0 0)]) []),cloHs [],MZ W 27 [bA o.ch] [] (.ret (.agg [iA (if o.ch=true then 2 else 1),iA 0,.str [],.val (Value.slice none 0 0),.val (Value.slice none 0 0)]) []),cloHs [],(!decide (o.e=0))=false,decide (r.op=5)=true,decide (r.op=4)=false,decide (r.op=3)=false,decide (r.op=2)=false]):=kr
theorem t5fc_0 (W:World) (r:RQ) (o:OC) (hy:JH) (ly:List JV) (ps:List (List (List UInt8))) (st:Int) (b:Bool):sF W {lp:=true,ol:=true,tl:=[27,55,56]} 7 [reqA r,outA o,iA st] [] 100000 [aE 1,bf,bf,bf,bt,aE 4,bf,ee,.lg,ee,cR (.agg [iA (if o.ch=true then 2 else 1),iA 0,.str [],.val (Value.slice none 0 0),.val (Value.slice none 0 0)]) [],ee,.lg,ee,cR (.agg [iA (if o.fr=true then 2 else 1),iA 0,.str [],.val (Value.slice none 0 0),.val (Value.slice none 0 0)]) [],aE 3,bf,bf,ee,.lg,ee,cR (.tup [(fA ps b).ip 0,iA 0]) [],ee,.lg,ee,cR (eV hy ly) [],ee] []=.ok (.ret (.tup [.gs 100017 0 4,.gs 100019 0 4]) [(100017,.arr 9 1 [.str [118,101,114,115,105,111,110],.str [99,104,97,110,103,101,100],.str [102,114,101,115,104],.str [118,97,108,117,101]] .own),(100019,.arr 25 5 [.agg [iA 3,iA o.xv,.str [],.val (Value.slice none 0 0),.val (Value.slice none 0 0)],.agg [iA (if o.ch=true then 2 else 1),iA 0,.str [],.val (Value.slice none 0 0),.val (Value.slice none 0 0)],.agg [iA (if o.fr=true then 2 else 1),iA 0,.str [],.val (Value.slice none 0 0),.val (Value.slice none 0 0)],eV hy ly] .own)],[aE 9999997],[MZ W 56 [(AV.agg [sL 1 (ppA ps),bA b]).ip 0,.agg [iA o.wh.kind,iA o.wh.int,.str o.wh.3,sL 1 (List.map AV.str o.wh.names),sL 5 (encVs o.wl)]] [] (.ret (eV hy ly) []),cloHs [],MZ W 55 [.agg [iA r.gh.kind,iA r.gh.int,.str r.gh.3,sL 1 (List.map AV.str r.gh.names),sL 5 (encVs r.gl)]] [] (.ret (.tup [(AV.agg [sL 1 (ppA ps),bA b]).ip 0,iA 0]) []),cloHs [],(!o.th)=false,r.nw=false,MZ W 27 [bA o.fr] [] (.ret (.agg [iA (if o.fr=true then 2 else 1),iA 0,.str [],.val (Value.slice none 0 0),.val (Value.slice none 0 0)]) []),cloHs [],MZ W 27 [bA o.ch] [] (.ret (.agg [iA (if o.ch=true then 2 else 1),iA 0,.str [],.val (Value.slice none 0 0),.val (Value.slice none 0 0)]) []),cloHs [],(!decide (o.e=0))=false,decide (r.op=5)=true,decide (r.op=4)=false,decide (r.op=3)=false,decide (r.op=2)=false]):=kr
theorem r2_0 (W:World) (r:RQ) (o:OC) (st:Int):sF W {lp:=true,ol:=true,tl:=[21,22]} 8 [reqA r,outA o,iA st] [] 100000 [aE 1,bf,bt,ee] []=.ok (.ret (.tup [.gs 100003 0 2,.gs 100004 0 2]) [(100003,.arr 9 1 [.str [105,100],.str [118,101,114,115,105,111,110]] .own),(100004,.arr 25 5 [.agg [iA 4,iA 0,.str r.3,.val (Value.slice none 0 0),.val (Value.slice none 0 0)],.agg [iA 3,iA o.xv,.str [],.val (Value.slice none 0 0),.val (Value.slice none 0 0)]] .own)],[aE 9999999],[decide (r.op=2)=true,(!decide (o.e=0))=false]):=kr
theorem r3_0 (W:World) (r:RQ) (o:OC) (st:Int):sF W {lp:=true,ol:=true,tl:=[21,22]} 8 [reqA r,outA o,iA st] [] 100000 [aE 1,bf,bf,bt,ee,.lg,ee,cR (.agg [iA (if o.ch=true then 2 else 1),iA 0,.str [],.val (Value.slice none 0 0),.val (Value.slice none 0 0)]) [],ee] []=.ok (.ret (.tup [.gs 100003 0 2,.gs 100004 0 2]) [(100003,.arr 9 1 [.str [118,101,114,115,105,111,110],.str [99,104,97,110,103,101,100]] .own),(100004,.arr 25 5 [.agg [iA 3,iA o.xv,.str [],.val (Value.slice none 0 0),.val (Value.slice none 0 0)],.agg [iA (if o.ch=true then 2 else 1),iA 0,.str [],.val (Value.slice none 0 0),.val (Value.slice none 0 0)]] .own)],[ee],[MZ W 21 [bA o.ch] [] (.ret (.agg [iA (if o.ch=true then 2 else 1),iA 0,.str [],.val (Value.slice none 0 0),.val (Value.slice none 0 0)]) []),cloHs [],decide (r.op=3)=true,decide (r.op=2)=false,(!decide (o.e=0))=false]):=kr
theorem r4_0 (W:World) (r:RQ) (o:OC) (st:Int):sF W {lp:=true,ol:=true,tl:=[21,22]} 8 [reqA r,outA o,iA st] [] 100000 [aE 1,bf,bf,bf,bt,ee,.lg,ee,cR (.agg [iA (if o.ch=true then 2 else 1),iA 0,.str [],.val (Value.slice none 0 0),.val (Value.slice none 0 0)]) [],ee,.lg,ee,cR (.agg [iA (if o.fr=true then 2 else 1),iA 0,.str [],.val (Value.slice none 0 0),.val (Value.slice none 0 0)]) [],ee] []=.ok (.ret (.tup [.gs 100003 0 3,.gs 100004 0 3]) [(100003,.arr 9 1 [.str [118,101,114,115,105,111,110],.str [99,104,97,110,103,101,100],.str [102,114,101,115,104]] .own),(100004,.arr 25 5 [.agg [iA 3,iA o.xv,.str [],.val (Value.slice none 0 0),.val (Value.slice none 0 0)],.agg [iA (if o.ch=true then 2 else 1),iA 0,.str [],.val (Value.slice none 0 0),.val (Value.slice none 0 0)],.agg [iA (if o.fr=true then 2 else 1),iA 0,.str [],.val (Value.slice none 0 0),.val (Value.slice none 0 0)]] .own)],[ee],[MZ W 21 [bA o.fr] [] (.ret (.agg [iA (if o.fr=true then 2 else 1),iA 0,.str [],.val (Value.slice none 0 0),.val (Value.slice none 0 0)]) []),cloHs [],MZ W 21 [bA o.ch] [] (.ret (.agg [iA (if o.ch=true then 2 else 1),iA 0,.str [],.val (Value.slice none 0 0),.val (Value.slice none 0 0)]) []),cloHs [],decide (r.op=4)=true,decide (r.op=3)=false,decide (r.op=2)=false,(!decide (o.e=0))=false]):=kr
theorem r5_0 (W:World) (r:RQ) (o:OC) (hy:JH) (ly:List JV) (st:Int):sF W {lp:=true,ol:=true,tl:=[21,22]} 8 [reqA r,outA o,iA st] [] 100000 [aE 1,bf,bf,bf,bf,bt,ee,.lg,ee,cR (.agg [iA (if o.ch=true then 2 else 1),iA 0,.str [],.val (Value.slice none 0 0),.val (Value.slice none 0 0)]) [],ee,.lg,ee,cR (.agg [iA (if o.fr=true then 2 else 1),iA 0,.str [],.val (Value.slice none 0 0),.val (Value.slice none 0 0)]) [],ee,.lg,ee,cR (eV hy ly) [],ee] []=.ok (.ret (.tup [.gs 100003 0 4,.gs 100004 0 4]) [(100003,.arr 9 1 [.str [118,101,114,115,105,111,110],.str [99,104,97,110,103,101,100],.str [102,114,101,115,104],.str [118,97,108,117,101]] .own),(100004,.arr 25 5 [.agg [iA 3,iA o.xv,.str [],.val (Value.slice none 0 0),.val (Value.slice none 0 0)],.agg [iA (if o.ch=true then 2 else 1),iA 0,.str [],.val (Value.slice none 0 0),.val (Value.slice none 0 0)],.agg [iA (if o.fr=true then 2 else 1),iA 0,.str [],.val (Value.slice none 0 0),.val (Value.slice none 0 0)],eV hy ly] .own)],[ee],[MZ W 22 [.agg [iA r.op,.str r.2,.str r.3,iA r.vh.kind,iA r.vh.int,.str r.vh.3,sL 1 (List.map AV.str r.vh.names),sL 5 (encVs r.vl),iA r.ver,iA r.oh.kind,iA r.oh.int,.str r.oh.3,sL 1 (List.map AV.str r.oh.names),sL 5 (encVs r.ol),iA r.fh.kind,iA r.fh.int,.str r.fh.3,sL 1 (List.map AV.str r.fh.names),sL 5 (encVs r.fl),bA r.ups,bA r.nw,iA r.gh.kind,iA r.gh.int,.str r.gh.3,sL 1 (List.map AV.str r.gh.names),sL 5 (encVs r.gl),iA r.ah.kind,iA r.ah.int,.str r.ah.3,sL 1 (List.map AV.str r.ah.names),sL 5 (encVs r.al),iA r.bh.kind,iA r.bh.int,.str r.bh.3,sL 1 (List.map AV.str r.bh.names),sL 5 (encVs r.bl),iA r.skip,iA r.lim,.str r.21,iA r.ph.kind,iA r.ph.int,.str r.ph.3,sL 1 (List.map AV.str r.ph.names),sL 5 (encVs r.pl),iA r.aft,.val (Value.slice r.sb r.sn r.sc),iA r.mode,iA r.batch,iA r.cur,iA r.most,iA r.ch.kind,iA r.ch.int,.str r.ch.3,sL 1 (List.map AV.str r.ch.names),sL 5 (encVs r.cl),.str r.34,bA r.uni],.agg [iA o.e,.str o.2,iA o.wv,iA o.wh.kind,iA o.wh.int,.str o.wh.3,sL 1 (List.map AV.str o.wh.names),sL 5 (encVs o.wl),bA o.th,.str o.7,iA o.xv,iA o.xh.kind,iA o.xh.int,.str o.xh.3,sL 1 (List.map AV.str o.xh.names),sL 5 (encVs o.xl),bA o.is,bA o.ch,bA o.fr]] [] (.ret (eV hy ly) []),cloHs [],MZ W 21 [bA o.fr] [] (.ret (.agg [iA (if o.fr=true then 2 else 1),iA 0,.str [],.val (Value.slice none 0 0),.val (Value.slice none 0 0)]) []),cloHs [],MZ W 21 [bA o.ch] [] (.ret (.agg [iA (if o.ch=true then 2 else 1),iA 0,.str [],.val (Value.slice none 0 0),.val (Value.slice none 0 0)]) []),cloHs [],decide (r.op=5)=true,decide (r.op=4)=false,decide (r.op=3)=false,decide (r.op=2)=false,(!decide (o.e=0))=false]):=kr
theorem r6_0 (W:World) (r:RQ) (o:OC) (st:Int):sF W {lp:=true,ol:=true,tl:=[21,22]} 8 [reqA r,outA o,iA st] [] 100000 [aE 1,bf,bf,bf,bf,bf,bt,ee] []=.ok (.ret (.tup [.gs 100003 0 1,.gs 100004 0 1]) [(100003,.arr 9 1 [.str [118,101,114,115,105,111,110]] .own),(100004,.arr 25 5 [.agg [iA 3,iA st,.str [],.val (Value.slice none 0 0),.val (Value.slice none 0 0)]] .own)],[aE 9999999],[decide (r.op=6)=true,decide (r.op=5)=false,decide (r.op=4)=false,decide (r.op=3)=false,decide (r.op=2)=false,(!decide (o.e=0))=false]):=kr
theorem r9_0 (W:World) (r:RQ) (o:OC) (st:Int):sF W {lp:=true,ol:=true,tl:=[21,22]} 8 [reqA r,outA o,iA st] [] 100000 [aE 1,bf,bf,bf,bf,bf,bf,ee] []=.ok (.ret (.tup [.val (Value.slice none 0 0),.val (Value.slice none 0 0)]) [],[ee],[decide (r.op=6)=false,decide (r.op=5)=false,decide (r.op=4)=false,decide (r.op=3)=false,decide (r.op=2)=false,(!decide (o.e=0))=false]):=kr
theorem re_0 (W:World) (r:RQ) (o:OC) (st:Int):sF W {lp:=true,ol:=true,tl:=[21,22]} 8 [reqA r,outA o,iA st] [] 100000 [aE 1,bt,ee] []=.ok (.ret (.tup [.val (Value.slice none 0 0),.val (Value.slice none 0 0)]) [],[ee],[(!decide (o.e=0))=true]):=kr
def ansA (N:List (List UInt8)) (L:List JV):AV:=.tup [.sl 1 (N.map AV.str) [],.sl 5 (encVs L) []]
def ownT (n:Nat):AV:=.tup [.gs 100003 0 n,.gs 100004 0 n]
def ownH (N:List (List UInt8)) (I:List AV):List (Nat×GE):=[(100003,.arr 9 1 (N.map AV.str) .own),(100004,.arr 25 5 I .own)]
def five (y:AV):Prop:=∃ c0 c1 c2 c3 c4,y=.agg [c0,c1,c2,c3,c4]
theorem encVs_flat:∀ (L:List JV),∀ e ∈ encVs L,e.flat.length=5
 | [],e,h=>by cases h
 | .mk h l::L,e,he=>by
  rw [encVs] at he
  rcases List.mem_cons.1 he with rfl|he
  ·rfl
  ·exact encVs_flat L e he
structure Told (W:World) (As:List AV) (N:List (List UInt8)) (I:List AV) (L:List JV):Prop where
 n:I.length=N.length
 n4:N.length<=4
 five:∀ y ∈ I,five y
 clo:cloL I=true
 le:LeL I (encVs L)
 cnt:∀ y ∈ L,cntV y<=2 ^ 30
 m7:MutC Tryz.prog W 7 As [] (.ret (ownT N.length) (ownH N I))
 p7:Pure Tryz.prog W 7 As (ansA N L)
 p8:Pure Tryz.prog W 8 As (ansA N L)
section
variable {W:World}
theorem ans_of {f:FuncId} {As:List AV} {N:List (List UInt8)} {I:List AV} {L:List JV} (hM:MutC Tryz.prog W f As [] (.ret (ownT N.length) (ownH N I))) (hn:I.length=N.length) (hc:cloL I=true) (hle:LeL I (encVs L)):Pure Tryz.prog W f As (ansA N L):=by
 refine pure_leR (.tup (.cons (.refl (.sl 1 (N.map AV.str) [])) (.cons (.els hle (encVs_flat L)) .nil))) (pure_frz (ownH N I) hM ?_ ?_ ?_)
 ·intro p hp
  simp only [ownH,List.mem_cons,List.not_mem_nil,or_false] at hp
  rcases hp with rfl|rfl
  ·exact ⟨rfl,cloL_str _⟩
  ·exact ⟨rfl,hc⟩
 ·have e1:List.take N.length (List.map AV.str N)=List.map AV.str N:=List.take_of_length_le (by simp)
  have e2:List.take N.length I=I:=List.take_of_length_le (by omega)
  simp [ownH,ownT,clA,clL,lk,e1,e2,hn]
 ·simp only [AV.clo,cloL,cloL_str,hc,Bool.and_self]
theorem rz {p:Prop} (h:p:=by and_intros<;>first|exact trivial|rfl|exact .eq rfl rfl|(refine .tupL ?_;exact .cons (.eq rfl rfl) (.cons (.eq rfl rfl) .nil))|exact gOK_arr rfl rfl rfl (by assumption)|exact gOK_arr rfl rfl rfl (cloL_str _)|exact allN_cloL (by assumption)|exact allN_cloL (cloL_str _)):p:=h
theorem ren_100005 (N:List (List UInt8)) (I:List AV) (n:Nat) (hc:cloL I=true):MatchK [] [(100003,100005),(100004,100006)] [] ⟨[(0,.tup [.gs 100005 0 n,.gs 100006 0 n])],[(100005,.arr 9 1 (N.map AV.str) .own),(100006,.arr 25 5 I .own)]⟩ ⟨[(0,ownT n)],ownH N I⟩ :=
 ⟨by rfl,(by simp only [ownT,ownH,tOK,List.map_cons,List.map_nil,and_true]<;>exact rz),(by simp only [ownT,ownH,hOK,List.map_cons,List.map_nil,and_true]<;>exact rz),(by simp only [ownT,ownH,liveT,List.map_cons,List.map_nil,and_true]<;>exact rz),(by simp only [ownT,ownH,liveH,List.map_cons,List.map_nil,and_true]<;>exact rz)⟩
theorem ren_100010 (N:List (List UInt8)) (I:List AV) (n:Nat) (hc:cloL I=true):MatchK [] [(100003,100010),(100004,100012)] [] ⟨[(0,.tup [.gs 100010 0 n,.gs 100012 0 n])],[(100010,.arr 9 1 (N.map AV.str) .own),(100012,.arr 25 5 I .own)]⟩ ⟨[(0,ownT n)],ownH N I⟩ :=
 ⟨by rfl,(by simp only [ownT,ownH,tOK,List.map_cons,List.map_nil,and_true]<;>exact rz),(by simp only [ownT,ownH,hOK,List.map_cons,List.map_nil,and_true]<;>exact rz),(by simp only [ownT,ownH,liveT,List.map_cons,List.map_nil,and_true]<;>exact rz),(by simp only [ownT,ownH,liveH,List.map_cons,List.map_nil,and_true]<;>exact rz)⟩
theorem ren_100017 (N:List (List UInt8)) (I:List AV) (n:Nat) (hc:cloL I=true):MatchK [] [(100003,100017),(100004,100019)] [] ⟨[(0,.tup [.gs 100017 0 n,.gs 100019 0 n])],[(100017,.arr 9 1 (N.map AV.str) .own),(100019,.arr 25 5 I .own)]⟩ ⟨[(0,ownT n)],ownH N I⟩ :=
 ⟨by rfl,(by simp only [ownT,ownH,tOK,List.map_cons,List.map_nil,and_true]<;>exact rz),(by simp only [ownT,ownH,hOK,List.map_cons,List.map_nil,and_true]<;>exact rz),(by simp only [ownT,ownH,liveT,List.map_cons,List.map_nil,and_true]<;>exact rz),(by simp only [ownT,ownH,liveH,List.map_cons,List.map_nil,and_true]<;>exact rz)⟩
theorem told_mk {As:List AV} {N:List (List UInt8)} {I I8:List AV} {L:List JV} (m7:MutC Tryz.prog W 7 As [] (.ret (ownT N.length) (ownH N I))) (m8:MutC Tryz.prog W 8 As [] (.ret (ownT N.length) (ownH N I8))) (hn:I.length=N.length) (hn8:I8.length=N.length) (h4:N.length<=4) (h5:∀ y ∈ I,five y) (hc:cloL I=true) (hc8:cloL I8=true) (hle:LeL I (encVs L)) (hle8:LeL I8 (encVs L)) (hcn:∀ y ∈ L,cntV y<=2 ^ 30):Told W As N I L :=
 ⟨hn,h4,h5,hc,hle,hcn,m7,ans_of m7 hn hc hle,ans_of m8 hn8 hc8 hle8⟩
theorem five_num (n:Int):five (num9 n):=⟨_,_,_,_,_,rfl⟩
theorem five_wrd (s:List UInt8):five (wrd9 s):=⟨_,_,_,_,_,rfl⟩
theorem five_flg (b:Bool):five (flg9 b):=⟨_,_,_,_,_,rfl⟩
theorem five_nul:five nul9:=⟨_,_,_,_,_,rfl⟩
theorem five_enc (v:JV):five (encV v):=by obtain ⟨h,l⟩:=v;exact ⟨_,_,_,_,_,rfl⟩
theorem memI {p:AV->Prop} {a:AV} {l:List AV} (h1:p a) (h2:∀ y ∈ l,p y):∀ y ∈ a::l,p y:=fun y hy=>by
 rcases List.mem_cons.1 hy with rfl|hy
 ·exact h1
 ·exact h2 y hy
theorem memL {p:JV->Prop} {a:JV} {l:List JV} (h1:p a) (h2:∀ y ∈ l,p y):∀ y ∈ a::l,p y:=fun y hy=>by
 rcases List.mem_cons.1 hy with rfl|hy
 ·exact h1
 ·exact h2 y hy
theorem memZ {α:Type} {p:α->Prop}:∀ y ∈ ([]:List α),p y:=fun y hy=>by cases hy
theorem clo_cons {a:AV} {l:List AV} (h1:a.clo=true) (h2:cloL l=true):cloL (a::l)=true:=by simp only [cloL,h1,h2,Bool.and_self]
theorem told (r:RQ) (o:OC) (st:Int) (hx:cntV (.mk o.xh o.xl)<=2 ^ 30) (hw:cntV (.mk o.wh o.wl)<=2 ^ 30) (hN:∀ s ∈ r.gh.names,s.length<=2 ^ 30) :
 (Pure Tryz.prog W 7 [reqA r,outA o,iA st] (.tup [.val (.slice none 0 0),.val (.slice none 0 0)])/\Pure Tryz.prog W 8 [reqA r,outA o,iA st] (.tup [.val (.slice none 0 0),.val (.slice none 0 0)])) ∨
 ∃ N I L,Told W [reqA r,outA o,iA st] N I L:=by
 have cs:=sh_cnt r o hx hw
 have hf1:MutC Tryz.prog W 27 [bA o.ch] [] (.ret (flg9 o.ch) []):=mut_of_pure rfl (flag27 W o.ch)
 have hf2:MutC Tryz.prog W 27 [bA o.fr] [] (.ret (flg9 o.fr) []):=mut_of_pure rfl (flag27 W o.fr)
 have ht1:MutC Tryz.prog W 21 [bA o.ch] [] (.ret (flg9 o.ch) []):=mut_of_pure rfl (truth21 W o.ch)
 have ht2:MutC Tryz.prog W 21 [bA o.fr] [] (.ret (flg9 o.fr) []):=mut_of_pure rfl (truth21 W o.fr)
 have ce:∀ e:Bool,(e=true->(!decide (o.e=0))=true)->True:=fun _ _=>trivial
 clear ce
 by_cases he:o.e=0
 case neg =>
  have ce:(!decide (o.e=0))=true:=by rw [decide_eq_false he];rfl
  refine .inl ⟨?_,pure_of_mut rfl (mut_of_sfun mixedz call8 rfl (re_0 W r o st) Th_z2)⟩
  clear hf1 hf2 ht1 ht2 hN cs
  by_cases h2:r.op=2
  case pos =>
   have d2:decide (r.op=2)=true:=decide_eq_true h2
   exact pure_of_mut rfl (mut_of_sfun mixedz call7 rfl (te_0 W r o st) Th_z2)
  by_cases h3:r.op=3
  case pos =>
   have d2:decide (r.op=2)=false:=decide_eq_false h2
   have d3:decide (r.op=3)=true:=decide_eq_true h3
   exact pure_of_mut rfl (mut_of_sfun mixedz call7 rfl (te_1 W r o st) Th_z2)
  by_cases h4:r.op=4
  case pos =>
   have d2:decide (r.op=2)=false:=decide_eq_false h2
   have d3:decide (r.op=3)=false:=decide_eq_false h3
   have d4:decide (r.op=4)=true:=decide_eq_true h4
   exact pure_of_mut rfl (mut_of_sfun mixedz call7 rfl (te_2 W r o st) Th_z2)
  by_cases h5:r.op=5
  case pos =>
   have d2:decide (r.op=2)=false:=decide_eq_false h2
   have d3:decide (r.op=3)=false:=decide_eq_false h3
   have d4:decide (r.op=4)=false:=decide_eq_false h4
   have d5:decide (r.op=5)=true:=decide_eq_true h5
   exact pure_of_mut rfl (mut_of_sfun mixedz call7 rfl (te_3 W r o st) Th_z2)
  by_cases h6:r.op=6
  case pos =>
   have d2:decide (r.op=2)=false:=decide_eq_false h2
   have d3:decide (r.op=3)=false:=decide_eq_false h3
   have d4:decide (r.op=4)=false:=decide_eq_false h4
   have d5:decide (r.op=5)=false:=decide_eq_false h5
   have d6:decide (r.op=6)=true:=decide_eq_true h6
   exact pure_of_mut rfl (mut_of_sfun mixedz call7 rfl (te_4 W r o st) Th_z2)
  have d2:decide (r.op=2)=false:=decide_eq_false h2
  have d3:decide (r.op=3)=false:=decide_eq_false h3
  have d4:decide (r.op=4)=false:=decide_eq_false h4
  have d5:decide (r.op=5)=false:=decide_eq_false h5
  have d6:decide (r.op=6)=false:=decide_eq_false h6
  exact pure_of_mut rfl (mut_of_sfun mixedz call7 rfl (te_5 W r o st) Th_z2)
 have ce:(!decide (o.e=0))=false:=by rw [decide_eq_true he];rfl
 by_cases h2:r.op=2
 case pos =>
  have d2:decide (r.op=2)=true:=decide_eq_true h2
  clear hN cs
  have m7:MutC Tryz.prog W 7 [reqA r,outA o,iA st] [] (.ret (ownT 2) (ownH [[105,100],[118,101,114,115,105,111,110]] [(wrd9 r.id),(num9 o.xv)])):=mut_match [(100003,100005),(100004,100006)] [] (mut_of_sfun mixedz call7 rfl (t2_0 W r o st) Th_z2) (ren_100005 [[105,100],[118,101,114,115,105,111,110]] [(wrd9 r.id),(num9 o.xv)] 2 (clo_cons rfl (clo_cons rfl rfl)))
  have m8:MutC Tryz.prog W 8 [reqA r,outA o,iA st] [] (.ret (ownT 2) (ownH [[105,100],[118,101,114,115,105,111,110]] [(wrd9 r.id),(num9 o.xv)])):=mut_of_sfun mixedz call8 rfl (r2_0 W r o st) Th_z2
  exact .inr ⟨[[105,100],[118,101,114,115,105,111,110]],[(wrd9 r.id),(num9 o.xv)],[(wrdV r.id),(numV o.xv)],told_mk m7 m8 rfl rfl (by decide) (memI (five_wrd _) (memI (five_num _) memZ)) (clo_cons rfl (clo_cons rfl rfl)) (clo_cons rfl (clo_cons rfl rfl)) (.cons (wrd_le _) (.cons (num_le _) .nil)) (.cons (wrd_le _) (.cons (num_le _) .nil)) (memL (Nat.le_of_lt (by show _<2 ^ 30;simp [cntV,cntVs,numV,wrdV,flgV])) (memL (Nat.le_of_lt (by show _<2 ^ 30;simp [cntV,cntVs,numV,wrdV,flgV])) memZ))⟩
 by_cases h3:r.op=3
 case pos =>
  have d2:decide (r.op=2)=false:=decide_eq_false h2
  have d3:decide (r.op=3)=true:=decide_eq_true h3
  clear hN cs
  have m7:MutC Tryz.prog W 7 [reqA r,outA o,iA st] [] (.ret (ownT 2) (ownH [[118,101,114,115,105,111,110],[99,104,97,110,103,101,100]] [(num9 o.xv),(flg9 o.ch)])):=mut_match [(100003,100005),(100004,100006)] [] (mut_of_sfun mixedz call7 rfl (t3_0 W r o st) Th_z2) (ren_100005 [[118,101,114,115,105,111,110],[99,104,97,110,103,101,100]] [(num9 o.xv),(flg9 o.ch)] 2 (clo_cons rfl (clo_cons rfl rfl)))
  have m8:MutC Tryz.prog W 8 [reqA r,outA o,iA st] [] (.ret (ownT 2) (ownH [[118,101,114,115,105,111,110],[99,104,97,110,103,101,100]] [(num9 o.xv),(flg9 o.ch)])):=mut_of_sfun mixedz call8 rfl (r3_0 W r o st) Th_z2
  exact .inr ⟨[[118,101,114,115,105,111,110],[99,104,97,110,103,101,100]],[(num9 o.xv),(flg9 o.ch)],[(numV o.xv),(flgV o.ch)],told_mk m7 m8 rfl rfl (by decide) (memI (five_num _) (memI (five_flg _) memZ)) (clo_cons rfl (clo_cons rfl rfl)) (clo_cons rfl (clo_cons rfl rfl)) (.cons (num_le _) (.cons (flg_le _) .nil)) (.cons (num_le _) (.cons (flg_le _) .nil)) (memL (Nat.le_of_lt (by show _<2 ^ 30;simp [cntV,cntVs,numV,wrdV,flgV])) (memL (Nat.le_of_lt (by show _<2 ^ 30;simp [cntV,cntVs,numV,wrdV,flgV])) memZ))⟩
 by_cases h4:r.op=4
 case pos =>
  have d2:decide (r.op=2)=false:=decide_eq_false h2
  have d3:decide (r.op=3)=false:=decide_eq_false h3
  have d4:decide (r.op=4)=true:=decide_eq_true h4
  clear hN cs
  have m7:MutC Tryz.prog W 7 [reqA r,outA o,iA st] [] (.ret (ownT 3) (ownH [[118,101,114,115,105,111,110],[99,104,97,110,103,101,100],[102,114,101,115,104]] [(num9 o.xv),(flg9 o.ch),(flg9 o.fr)])):=mut_match [(100003,100010),(100004,100012)] [] (mut_of_sfun mixedz call7 rfl (t4_0 W r o st) Th_z2) (ren_100010 [[118,101,114,115,105,111,110],[99,104,97,110,103,101,100],[102,114,101,115,104]] [(num9 o.xv),(flg9 o.ch),(flg9 o.fr)] 3 (clo_cons rfl (clo_cons rfl (clo_cons rfl rfl))))
  have m8:MutC Tryz.prog W 8 [reqA r,outA o,iA st] [] (.ret (ownT 3) (ownH [[118,101,114,115,105,111,110],[99,104,97,110,103,101,100],[102,114,101,115,104]] [(num9 o.xv),(flg9 o.ch),(flg9 o.fr)])):=mut_of_sfun mixedz call8 rfl (r4_0 W r o st) Th_z2
  exact .inr ⟨[[118,101,114,115,105,111,110],[99,104,97,110,103,101,100],[102,114,101,115,104]],[(num9 o.xv),(flg9 o.ch),(flg9 o.fr)],[(numV o.xv),(flgV o.ch),(flgV o.fr)],told_mk m7 m8 rfl rfl (by decide) (memI (five_num _) (memI (five_flg _) (memI (five_flg _) memZ))) (clo_cons rfl (clo_cons rfl (clo_cons rfl rfl))) (clo_cons rfl (clo_cons rfl (clo_cons rfl rfl))) (.cons (num_le _) (.cons (flg_le _) (.cons (flg_le _) .nil))) (.cons (num_le _) (.cons (flg_le _) (.cons (flg_le _) .nil))) (memL (Nat.le_of_lt (by show _<2 ^ 30;simp [cntV,cntVs,numV,wrdV,flgV])) (memL (Nat.le_of_lt (by show _<2 ^ 30;simp [cntV,cntVs,numV,wrdV,flgV])) (memL (Nat.le_of_lt (by show _<2 ^ 30;simp [cntV,cntVs,numV,wrdV,flgV])) memZ)))⟩
 by_cases h5:r.op=5
 case pos =>
  have d2:decide (r.op=2)=false:=decide_eq_false h2
  have d3:decide (r.op=3)=false:=decide_eq_false h3
  have d4:decide (r.op=4)=false:=decide_eq_false h4
  have d5:decide (r.op=5)=true:=decide_eq_true h5
  have h55:=mut_of_pure (by simp [cloL,encV_clo]) (parse55 W (.mk r.gh r.gl) hN)
  have h22:=mut_of_pure (by rfl) (shown22 W r o hx hw hN)
  have hsh:shV r o=if r.nw then (if o.is then appV (pfV (.mk r.gh r.gl)) (.mk o.xh o.xl) else nulV) else (if o.th then appV (pfV (.mk r.gh r.gl)) (.mk o.wh o.wl) else nulV):=rfl
  clear hN
  generalize hy:shV r o=y at h22 hsh cs
  obtain ⟨hy1,ly⟩:=y
  clear hy
  by_cases hn:r.nw=true
  case pos =>
   rw [hn] at hsh
   cases hi:o.is with
   | false =>
    have c1:(!o.is)=true:=by rw [hi];rfl
    rw [hi] at hsh
    have hz:JV.mk hy1 ly=nulV:=hsh
    have hle:Le nul9 (encV (.mk hy1 ly)):=by rw [hz];exact nul_le
    clear h55 hsh
    have m7:MutC Tryz.prog W 7 [reqA r,outA o,iA st] [] (.ret (ownT 4) (ownH [[118,101,114,115,105,111,110],[99,104,97,110,103,101,100],[102,114,101,115,104],[118,97,108,117,101]] [(num9 o.xv),(flg9 o.ch),(flg9 o.fr),nul9])):=mut_match [(100003,100017),(100004,100019)] [] (mut_of_sfun mixedz call7 rfl (t5ta_0 W r o st) Th_z2) (ren_100017 [[118,101,114,115,105,111,110],[99,104,97,110,103,101,100],[102,114,101,115,104],[118,97,108,117,101]] [(num9 o.xv),(flg9 o.ch),(flg9 o.fr),nul9] 4 (clo_cons rfl (clo_cons rfl (clo_cons rfl (clo_cons rfl rfl)))))
    have m8:MutC Tryz.prog W 8 [reqA r,outA o,iA st] [] (.ret (ownT 4) (ownH [[118,101,114,115,105,111,110],[99,104,97,110,103,101,100],[102,114,101,115,104],[118,97,108,117,101]] [(num9 o.xv),(flg9 o.ch),(flg9 o.fr),(encV (.mk hy1 ly))])):=mut_of_sfun mixedz call8 rfl (r5_0 W r o hy1 ly st) Th_z2
    exact .inr ⟨[[118,101,114,115,105,111,110],[99,104,97,110,103,101,100],[102,114,101,115,104],[118,97,108,117,101]],[(num9 o.xv),(flg9 o.ch),(flg9 o.fr),nul9],[(numV o.xv),(flgV o.ch),(flgV o.fr),.mk hy1 ly],told_mk m7 m8 rfl rfl (by decide) (memI (five_num _) (memI (five_flg _) (memI (five_flg _) (memI five_nul memZ)))) (clo_cons rfl (clo_cons rfl (clo_cons rfl (clo_cons rfl rfl)))) (clo_cons rfl (clo_cons rfl (clo_cons rfl (clo_cons (encV_clo _) rfl)))) (.cons (num_le _) (.cons (flg_le _) (.cons (flg_le _) (.cons hle .nil)))) (.cons (num_le _) (.cons (flg_le _) (.cons (flg_le _) (.cons (.refl _) .nil)))) (memL (Nat.le_of_lt (by show _<2 ^ 30;simp [cntV,cntVs,numV,wrdV,flgV])) (memL (Nat.le_of_lt (by show _<2 ^ 30;simp [cntV,cntVs,numV,wrdV,flgV])) (memL (Nat.le_of_lt (by show _<2 ^ 30;simp [cntV,cntVs,numV,wrdV,flgV])) (memL cs memZ))))⟩
   | true =>
    have c1:(!o.is)=false:=by rw [hi];rfl
    rw [hi] at hsh
    cases hp:pfV (.mk r.gh r.gl) with
    | error e =>
     rw [hp] at h55 hsh
     have hz:JV.mk hy1 ly=.mk o.xh o.xl:=hsh
     injection hz with hz1 hz2
     subst hz1 hz2
     have h56:=mut_of_pure (by simp [cloL,encV_clo,AV.clo]) (apply56n W (.mk o.xh o.xl))
     clear hsh
     have m7:MutC Tryz.prog W 7 [reqA r,outA o,iA st] [] (.ret (ownT 4) (ownH [[118,101,114,115,105,111,110],[99,104,97,110,103,101,100],[102,114,101,115,104],[118,97,108,117,101]] [(num9 o.xv),(flg9 o.ch),(flg9 o.fr),(encV (.mk o.xh o.xl))])):=mut_match [(100003,100017),(100004,100019)] [] (mut_of_sfun mixedz call7 rfl (t5tb_0 W r o o.xh o.xl st e) Th_z2) (ren_100017 [[118,101,114,115,105,111,110],[99,104,97,110,103,101,100],[102,114,101,115,104],[118,97,108,117,101]] [(num9 o.xv),(flg9 o.ch),(flg9 o.fr),(encV (.mk o.xh o.xl))] 4 (clo_cons rfl (clo_cons rfl (clo_cons rfl (clo_cons (encV_clo _) rfl)))))
     have m8:MutC Tryz.prog W 8 [reqA r,outA o,iA st] [] (.ret (ownT 4) (ownH [[118,101,114,115,105,111,110],[99,104,97,110,103,101,100],[102,114,101,115,104],[118,97,108,117,101]] [(num9 o.xv),(flg9 o.ch),(flg9 o.fr),(encV (.mk o.xh o.xl))])):=mut_of_sfun mixedz call8 rfl (r5_0 W r o o.xh o.xl st) Th_z2
     exact .inr ⟨[[118,101,114,115,105,111,110],[99,104,97,110,103,101,100],[102,114,101,115,104],[118,97,108,117,101]],[(num9 o.xv),(flg9 o.ch),(flg9 o.fr),(encV (.mk o.xh o.xl))],[(numV o.xv),(flgV o.ch),(flgV o.fr),.mk o.xh o.xl],told_mk m7 m8 rfl rfl (by decide) (memI (five_num _) (memI (five_flg _) (memI (five_flg _) (memI (five_enc _) memZ)))) (clo_cons rfl (clo_cons rfl (clo_cons rfl (clo_cons (encV_clo _) rfl)))) (clo_cons rfl (clo_cons rfl (clo_cons rfl (clo_cons (encV_clo _) rfl)))) (.cons (num_le _) (.cons (flg_le _) (.cons (flg_le _) (.cons (.refl _) .nil)))) (.cons (num_le _) (.cons (flg_le _) (.cons (flg_le _) (.cons (.refl _) .nil)))) (memL (Nat.le_of_lt (by show _<2 ^ 30;simp [cntV,cntVs,numV,wrdV,flgV])) (memL (Nat.le_of_lt (by show _<2 ^ 30;simp [cntV,cntVs,numV,wrdV,flgV])) (memL (Nat.le_of_lt (by show _<2 ^ 30;simp [cntV,cntVs,numV,wrdV,flgV])) (memL cs memZ))))⟩
    | ok x =>
     obtain ⟨A,C⟩:=x
     rw [hp] at h55 hsh
     have hz:JV.mk hy1 ly=fldV A C (.mk o.xh o.xl):=hsh
     have h56:=mut_of_pure (by simp [cloL,encV_clo,AV.clo,fA,ppA_clo,bA]) (apply56 W (.mk o.xh o.xl) A C hx (pfV_ok hp))
     rw [<-hz] at h56
     clear hsh hz hp
     have m7:MutC Tryz.prog W 7 [reqA r,outA o,iA st] [] (.ret (ownT 4) (ownH [[118,101,114,115,105,111,110],[99,104,97,110,103,101,100],[102,114,101,115,104],[118,97,108,117,101]] [(num9 o.xv),(flg9 o.ch),(flg9 o.fr),(encV (.mk hy1 ly))])):=mut_match [(100003,100017),(100004,100019)] [] (mut_of_sfun mixedz call7 rfl (t5tc_0 W r o hy1 ly A st C) Th_z2) (ren_100017 [[118,101,114,115,105,111,110],[99,104,97,110,103,101,100],[102,114,101,115,104],[118,97,108,117,101]] [(num9 o.xv),(flg9 o.ch),(flg9 o.fr),(encV (.mk hy1 ly))] 4 (clo_cons rfl (clo_cons rfl (clo_cons rfl (clo_cons (encV_clo _) rfl)))))
     have m8:MutC Tryz.prog W 8 [reqA r,outA o,iA st] [] (.ret (ownT 4) (ownH [[118,101,114,115,105,111,110],[99,104,97,110,103,101,100],[102,114,101,115,104],[118,97,108,117,101]] [(num9 o.xv),(flg9 o.ch),(flg9 o.fr),(encV (.mk hy1 ly))])):=mut_of_sfun mixedz call8 rfl (r5_0 W r o hy1 ly st) Th_z2
     exact .inr ⟨[[118,101,114,115,105,111,110],[99,104,97,110,103,101,100],[102,114,101,115,104],[118,97,108,117,101]],[(num9 o.xv),(flg9 o.ch),(flg9 o.fr),(encV (.mk hy1 ly))],[(numV o.xv),(flgV o.ch),(flgV o.fr),.mk hy1 ly],told_mk m7 m8 rfl rfl (by decide) (memI (five_num _) (memI (five_flg _) (memI (five_flg _) (memI (five_enc _) memZ)))) (clo_cons rfl (clo_cons rfl (clo_cons rfl (clo_cons (encV_clo _) rfl)))) (clo_cons rfl (clo_cons rfl (clo_cons rfl (clo_cons (encV_clo _) rfl)))) (.cons (num_le _) (.cons (flg_le _) (.cons (flg_le _) (.cons (.refl _) .nil)))) (.cons (num_le _) (.cons (flg_le _) (.cons (flg_le _) (.cons (.refl _) .nil)))) (memL (Nat.le_of_lt (by show _<2 ^ 30;simp [cntV,cntVs,numV,wrdV,flgV])) (memL (Nat.le_of_lt (by show _<2 ^ 30;simp [cntV,cntVs,numV,wrdV,flgV])) (memL (Nat.le_of_lt (by show _<2 ^ 30;simp [cntV,cntVs,numV,wrdV,flgV])) (memL cs memZ))))⟩
  by_cases hn:r.nw=false
  case pos =>
   rw [hn] at hsh
   cases hi:o.th with
   | false =>
    have c1:(!o.th)=true:=by rw [hi];rfl
    rw [hi] at hsh
    have hz:JV.mk hy1 ly=nulV:=hsh
    have hle:Le nul9 (encV (.mk hy1 ly)):=by rw [hz];exact nul_le
    clear h55 hsh
    have m7:MutC Tryz.prog W 7 [reqA r,outA o,iA st] [] (.ret (ownT 4) (ownH [[118,101,114,115,105,111,110],[99,104,97,110,103,101,100],[102,114,101,115,104],[118,97,108,117,101]] [(num9 o.xv),(flg9 o.ch),(flg9 o.fr),nul9])):=mut_match [(100003,100017),(100004,100019)] [] (mut_of_sfun mixedz call7 rfl (t5fa_0 W r o st) Th_z2) (ren_100017 [[118,101,114,115,105,111,110],[99,104,97,110,103,101,100],[102,114,101,115,104],[118,97,108,117,101]] [(num9 o.xv),(flg9 o.ch),(flg9 o.fr),nul9] 4 (clo_cons rfl (clo_cons rfl (clo_cons rfl (clo_cons rfl rfl)))))
    have m8:MutC Tryz.prog W 8 [reqA r,outA o,iA st] [] (.ret (ownT 4) (ownH [[118,101,114,115,105,111,110],[99,104,97,110,103,101,100],[102,114,101,115,104],[118,97,108,117,101]] [(num9 o.xv),(flg9 o.ch),(flg9 o.fr),(encV (.mk hy1 ly))])):=mut_of_sfun mixedz call8 rfl (r5_0 W r o hy1 ly st) Th_z2
    exact .inr ⟨[[118,101,114,115,105,111,110],[99,104,97,110,103,101,100],[102,114,101,115,104],[118,97,108,117,101]],[(num9 o.xv),(flg9 o.ch),(flg9 o.fr),nul9],[(numV o.xv),(flgV o.ch),(flgV o.fr),.mk hy1 ly],told_mk m7 m8 rfl rfl (by decide) (memI (five_num _) (memI (five_flg _) (memI (five_flg _) (memI five_nul memZ)))) (clo_cons rfl (clo_cons rfl (clo_cons rfl (clo_cons rfl rfl)))) (clo_cons rfl (clo_cons rfl (clo_cons rfl (clo_cons (encV_clo _) rfl)))) (.cons (num_le _) (.cons (flg_le _) (.cons (flg_le _) (.cons hle .nil)))) (.cons (num_le _) (.cons (flg_le _) (.cons (flg_le _) (.cons (.refl _) .nil)))) (memL (Nat.le_of_lt (by show _<2 ^ 30;simp [cntV,cntVs,numV,wrdV,flgV])) (memL (Nat.le_of_lt (by show _<2 ^ 30;simp [cntV,cntVs,numV,wrdV,flgV])) (memL (Nat.le_of_lt (by show _<2 ^ 30;simp [cntV,cntVs,numV,wrdV,flgV])) (memL cs memZ))))⟩
   | true =>
    have c1:(!o.th)=false:=by rw [hi];rfl
    rw [hi] at hsh
    cases hp:pfV (.mk r.gh r.gl) with
    | error e =>
     rw [hp] at h55 hsh
     have hz:JV.mk hy1 ly=.mk o.wh o.wl:=hsh
     injection hz with hz1 hz2
     subst hz1 hz2
     have h56:=mut_of_pure (by simp [cloL,encV_clo,AV.clo]) (apply56n W (.mk o.wh o.wl))
     clear hsh
     have m7:MutC Tryz.prog W 7 [reqA r,outA o,iA st] [] (.ret (ownT 4) (ownH [[118,101,114,115,105,111,110],[99,104,97,110,103,101,100],[102,114,101,115,104],[118,97,108,117,101]] [(num9 o.xv),(flg9 o.ch),(flg9 o.fr),(encV (.mk o.wh o.wl))])):=mut_match [(100003,100017),(100004,100019)] [] (mut_of_sfun mixedz call7 rfl (t5fb_0 W r o o.wh o.wl st e) Th_z2) (ren_100017 [[118,101,114,115,105,111,110],[99,104,97,110,103,101,100],[102,114,101,115,104],[118,97,108,117,101]] [(num9 o.xv),(flg9 o.ch),(flg9 o.fr),(encV (.mk o.wh o.wl))] 4 (clo_cons rfl (clo_cons rfl (clo_cons rfl (clo_cons (encV_clo _) rfl)))))
     have m8:MutC Tryz.prog W 8 [reqA r,outA o,iA st] [] (.ret (ownT 4) (ownH [[118,101,114,115,105,111,110],[99,104,97,110,103,101,100],[102,114,101,115,104],[118,97,108,117,101]] [(num9 o.xv),(flg9 o.ch),(flg9 o.fr),(encV (.mk o.wh o.wl))])):=mut_of_sfun mixedz call8 rfl (r5_0 W r o o.wh o.wl st) Th_z2
     exact .inr ⟨[[118,101,114,115,105,111,110],[99,104,97,110,103,101,100],[102,114,101,115,104],[118,97,108,117,101]],[(num9 o.xv),(flg9 o.ch),(flg9 o.fr),(encV (.mk o.wh o.wl))],[(numV o.xv),(flgV o.ch),(flgV o.fr),.mk o.wh o.wl],told_mk m7 m8 rfl rfl (by decide) (memI (five_num _) (memI (five_flg _) (memI (five_flg _) (memI (five_enc _) memZ)))) (clo_cons rfl (clo_cons rfl (clo_cons rfl (clo_cons (encV_clo _) rfl)))) (clo_cons rfl (clo_cons rfl (clo_cons rfl (clo_cons (encV_clo _) rfl)))) (.cons (num_le _) (.cons (flg_le _) (.cons (flg_le _) (.cons (.refl _) .nil)))) (.cons (num_le _) (.cons (flg_le _) (.cons (flg_le _) (.cons (.refl _) .nil)))) (memL (Nat.le_of_lt (by show _<2 ^ 30;simp [cntV,cntVs,numV,wrdV,flgV])) (memL (Nat.le_of_lt (by show _<2 ^ 30;simp [cntV,cntVs,numV,wrdV,flgV])) (memL (Nat.le_of_lt (by show _<2 ^ 30;simp [cntV,cntVs,numV,wrdV,flgV])) (memL cs memZ))))⟩
    | ok x =>
     obtain ⟨A,C⟩:=x
     rw [hp] at h55 hsh
     have hz:JV.mk hy1 ly=fldV A C (.mk o.wh o.wl):=hsh
     have h56:=mut_of_pure (by simp [cloL,encV_clo,AV.clo,fA,ppA_clo,bA]) (apply56 W (.mk o.wh o.wl) A C hw (pfV_ok hp))
     rw [<-hz] at h56
     clear hsh hz hp
     have m7:MutC Tryz.prog W 7 [reqA r,outA o,iA st] [] (.ret (ownT 4) (ownH [[118,101,114,115,105,111,110],[99,104,97,110,103,101,100],[102,114,101,115,104],[118,97,108,117,101]] [(num9 o.xv),(flg9 o.ch),(flg9 o.fr),(encV (.mk hy1 ly))])):=mut_match [(100003,100017),(100004,100019)] [] (mut_of_sfun mixedz call7 rfl (t5fc_0 W r o hy1 ly A st C) Th_z2) (ren_100017 [[118,101,114,115,105,111,110],[99,104,97,110,103,101,100],[102,114,101,115,104],[118,97,108,117,101]] [(num9 o.xv),(flg9 o.ch),(flg9 o.fr),(encV (.mk hy1 ly))] 4 (clo_cons rfl (clo_cons rfl (clo_cons rfl (clo_cons (encV_clo _) rfl)))))
     have m8:MutC Tryz.prog W 8 [reqA r,outA o,iA st] [] (.ret (ownT 4) (ownH [[118,101,114,115,105,111,110],[99,104,97,110,103,101,100],[102,114,101,115,104],[118,97,108,117,101]] [(num9 o.xv),(flg9 o.ch),(flg9 o.fr),(encV (.mk hy1 ly))])):=mut_of_sfun mixedz call8 rfl (r5_0 W r o hy1 ly st) Th_z2
     exact .inr ⟨[[118,101,114,115,105,111,110],[99,104,97,110,103,101,100],[102,114,101,115,104],[118,97,108,117,101]],[(num9 o.xv),(flg9 o.ch),(flg9 o.fr),(encV (.mk hy1 ly))],[(numV o.xv),(flgV o.ch),(flgV o.fr),.mk hy1 ly],told_mk m7 m8 rfl rfl (by decide) (memI (five_num _) (memI (five_flg _) (memI (five_flg _) (memI (five_enc _) memZ)))) (clo_cons rfl (clo_cons rfl (clo_cons rfl (clo_cons (encV_clo _) rfl)))) (clo_cons rfl (clo_cons rfl (clo_cons rfl (clo_cons (encV_clo _) rfl)))) (.cons (num_le _) (.cons (flg_le _) (.cons (flg_le _) (.cons (.refl _) .nil)))) (.cons (num_le _) (.cons (flg_le _) (.cons (flg_le _) (.cons (.refl _) .nil)))) (memL (Nat.le_of_lt (by show _<2 ^ 30;simp [cntV,cntVs,numV,wrdV,flgV])) (memL (Nat.le_of_lt (by show _<2 ^ 30;simp [cntV,cntVs,numV,wrdV,flgV])) (memL (Nat.le_of_lt (by show _<2 ^ 30;simp [cntV,cntVs,numV,wrdV,flgV])) (memL cs memZ))))⟩
  exact absurd ((Bool.eq_false_or_eq_true r.nw).resolve_left (by assumption)) hn
 by_cases h6:r.op=6
 case pos =>
  have d2:decide (r.op=2)=false:=decide_eq_false h2
  have d3:decide (r.op=3)=false:=decide_eq_false h3
  have d4:decide (r.op=4)=false:=decide_eq_false h4
  have d5:decide (r.op=5)=false:=decide_eq_false h5
  have d6:decide (r.op=6)=true:=decide_eq_true h6
  clear hN cs
  have m7:MutC Tryz.prog W 7 [reqA r,outA o,iA st] [] (.ret (ownT 1) (ownH [[118,101,114,115,105,111,110]] [(num9 st)])):=mut_match [(100003,100005),(100004,100006)] [] (mut_of_sfun mixedz call7 rfl (t6_0 W r o st) Th_z2) (ren_100005 [[118,101,114,115,105,111,110]] [(num9 st)] 1 (clo_cons rfl rfl))
  have m8:MutC Tryz.prog W 8 [reqA r,outA o,iA st] [] (.ret (ownT 1) (ownH [[118,101,114,115,105,111,110]] [(num9 st)])):=mut_of_sfun mixedz call8 rfl (r6_0 W r o st) Th_z2
  exact .inr ⟨[[118,101,114,115,105,111,110]],[(num9 st)],[(numV st)],told_mk m7 m8 rfl rfl (by decide) (memI (five_num _) memZ) (clo_cons rfl rfl) (clo_cons rfl rfl) (.cons (num_le _) .nil) (.cons (num_le _) .nil) (memL (Nat.le_of_lt (by show _<2 ^ 30;simp [cntV,cntVs,numV,wrdV,flgV])) memZ)⟩
 have d2:decide (r.op=2)=false:=decide_eq_false h2
 have d3:decide (r.op=3)=false:=decide_eq_false h3
 have d4:decide (r.op=4)=false:=decide_eq_false h4
 have d5:decide (r.op=5)=false:=decide_eq_false h5
 have d6:decide (r.op=6)=false:=decide_eq_false h6
 exact .inl ⟨pure_of_mut rfl (mut_of_sfun mixedz call7 rfl (te_5 W r o st) Th_z2),pure_of_mut rfl (mut_of_sfun mixedz call8 rfl (r9_0 W r o st) Th_z2)⟩
end
end Go.Ac

namespace Go.Ac
open Go
end Go.Ac

set_option maxRecDepth 10000
set_option maxHeartbeats 1000000
namespace Go.Ac
open Go Go.Proofs
theorem call6:callable Tryz.prog 6=true:=kr
theorem live6 (W:World):Pure Tryz.prog W 6 [] (bA true):=pure_of_xfun (n:=30) (F:=1000) mixedz call6 rfl rfl (by kernel_rfl)
end Go.Ac

namespace Go.Ac
open Go Go.Proofs
set_option maxRecDepth 10000
set_option maxHeartbeats 1000000
def S9t (N:List (List UInt8)) (i:Nat):AS:=⟨[(0,.sl 1 (N.map AV.str) []),(1,.sl 1 (N.map AV.str) []),(5,iA i)],[]⟩
def S10t (L:List JV) (i:Nat):AS:=⟨[(0,.sl 5 (encVs L) []),(1,.sl 5 (encVs L) []),(5,iA i)],[]⟩
def Ee:AS:=⟨[],[]⟩
def P3 (A I:List AV) (N:List (List UInt8)) (L:List JV) (n i:Nat):AS:=⟨[(7,.gs 100003 0 n),(8,.gs 100004 0 n),(9,.sl 1 (N.map AV.str) []),(10,.sl 5 (encVs L) []),(11,.sl 1 (N.map AV.str) []),(12,.sl 5 (encVs L) []),(13,iA i)],[(100003,.arr 9 1 A .own),(100004,.arr 25 5 I .own)]⟩
def P3e (A I:List AV) (N:List (List UInt8)) (L:List JV) (n:Nat):AS:=⟨[(7,.gs 100003 0 n),(8,.gs 100004 0 n),(9,.sl 1 (N.map AV.str) []),(10,.sl 5 (encVs L) []),(11,.sl 1 (N.map AV.str) []),(12,.sl 5 (encVs L) [])],[(100003,.arr 9 1 A .own),(100004,.arr 25 5 I .own)]⟩
def G3 (A I:List AV) (N:List (List UInt8)) (L:List JV) (n m i:Nat):AS:=⟨[(7,.gs 100003 0 n),(8,.gs 100004 0 m),(9,.sl 1 (N.map AV.str) []),(10,.sl 5 (encVs L) []),(11,.sl 1 (N.map AV.str) []),(12,.sl 5 (encVs L) []),(14,iA i)],[(100003,.arr 9 1 A .own),(100004,.arr 25 5 I .own)]⟩
def G3e (N:List (List UInt8)) (L:List JV):AS:=⟨[(9,.sl 1 (N.map AV.str) []),(10,.sl 5 (encVs L) []),(11,.sl 1 (N.map AV.str) []),(12,.sl 5 (encVs L) [])],[]⟩
theorem t9_1 (W:World) (N:List (List UInt8)):sF W {lp:=true,ol:=true,tl:=[]} 9 [.sl 1 (N.map AV.str) [],.sl 1 (N.map AV.str) []] [] 100000 [bf,ee,.loopM [] [] (S9t N 0) (.exit 0) Ee,ee] []=.ok (.ret (bA true) [],[ee],[LZ W [] 9 0 (S9t N 0) (.exit 0) Ee,MatchK [] [] [] {t:=[(0,sL 1 (List.map AV.str N)),(1,sL 1 (List.map AV.str N)),(5,iA 0)],h:=[]} (S9t N 0),(!decide ((↑(List.map AV.str N).length:Int)=(↑(List.map AV.str N).length:Int)))=false]):=kr
theorem t10_1 (W:World) (L:List JV):sF W {lp:=true,ol:=true,tl:=[]} 10 [.sl 5 (encVs L) [],.sl 5 (encVs L) []] [] 100000 [bf,ee,.loopM [] [] (S10t L 0) (.exit 0) Ee,ee] []=.ok (.ret (bA true) [],[ee],[LZ W [] 10 0 (S10t L 0) (.exit 0) Ee,MatchK [] [] [] {t:=[(0,sL 5 (encVs L)),(1,sL 5 (encVs L)),(5,iA 0)],h:=[]} (S10t L 0),(!decide ((↑(encVs L).length:Int)=(↑(encVs L).length:Int)))=false]):=kr
theorem l4_0 (W:World) (r:RQ) (n1 n2 n3 n4:Int):sF W {lp:=true,ol:=true,tl:=[13]} 5 [.sl 5 [eV r.vh r.vl,eV r.oh r.ol,eV r.fh r.fl,eV r.gh r.gl] []] [] 100000 [ee,.un,ee,.lg,ee,cR (iA n1) [],ee,.un,ee,.lg,ee,cR (iA n2) [],ee,.un,ee,.lg,ee,cR (iA n3) [],ee,.un,ee,.lg,ee,cR (iA n4) [],ee,.un,ee] []=.ok (.ret (bA (decide (20000<IntKind.i64.wrap (IntKind.i64.wrap (IntKind.i64.wrap (IntKind.i64.wrap (0+n1)+n2)+n3)+n4)))) [],[aE 9999999],[MZ W 13 [.agg [iA r.gh.kind,iA r.gh.int,.str r.gh.3,sL 1 (List.map AV.str r.gh.names),sL 5 (encVs r.gl)],iA 20000] [] (.ret (iA n4) []),cloHs [],MZ W 13 [.agg [iA r.fh.kind,iA r.fh.int,.str r.fh.3,sL 1 (List.map AV.str r.fh.names),sL 5 (encVs r.fl)],iA 20000] [] (.ret (iA n3) []),cloHs [],MZ W 13 [.agg [iA r.oh.kind,iA r.oh.int,.str r.oh.3,sL 1 (List.map AV.str r.oh.names),sL 5 (encVs r.ol)],iA 20000] [] (.ret (iA n2) []),cloHs [],MZ W 13 [.agg [iA r.vh.kind,iA r.vh.int,.str r.vh.3,sL 1 (List.map AV.str r.vh.names),sL 5 (encVs r.vl)],iA 20000] [] (.ret (iA n1) []),cloHs []]):=kr
theorem l2_0 (W:World) (o:OC) (n1 n2:Int):sF W {lp:=true,ol:=true,tl:=[13]} 5 [.sl 5 [eV o.wh o.wl,eV o.xh o.xl] []] [] 100000 [ee,.un,ee,.lg,ee,cR (iA n1) [],ee,.un,ee,.lg,ee,cR (iA n2) [],ee,.un,ee] []=.ok (.ret (bA (decide (20000<IntKind.i64.wrap (IntKind.i64.wrap (0+n1)+n2)))) [],[aE 9999999],[MZ W 13 [.agg [iA o.xh.kind,iA o.xh.int,.str o.xh.3,sL 1 (List.map AV.str o.xh.names),sL 5 (encVs o.xl)],iA 20000] [] (.ret (iA n2) []),cloHs [],MZ W 13 [.agg [iA o.wh.kind,iA o.wh.int,.str o.wh.3,sL 1 (List.map AV.str o.wh.names),sL 5 (encVs o.wl)],iA 20000] [] (.ret (iA n1) []),cloHs []]):=kr
theorem h4_0 (W:World) (r:RQ) (b:Bool):sF W {lp:=true,ol:=true,tl:=[5]} 4 [reqA r] [] 100000 [ee,.lg,ee,cR (bA b) [(100001,.arr 25 5 [.agg [iA r.vh.kind,iA r.vh.int,.str r.vh.text,sL 1 (List.map AV.str r.vh.names),sL 5 (encVs r.vl)],.agg [iA r.oh.kind,iA r.oh.int,.str r.oh.text,sL 1 (List.map AV.str r.oh.names),sL 5 (encVs r.ol)],.agg [iA r.fh.kind,iA r.fh.int,.str r.fh.text,sL 1 (List.map AV.str r.fh.names),sL 5 (encVs r.fl)],.agg [iA r.gh.kind,iA r.gh.int,.str r.gh.text,sL 1 (List.map AV.str r.gh.names),sL 5 (encVs r.gl)]] .own)],ee] []=.ok (.ret (bA b) [],[ee],[MZ W 5 [.gs 100001 0 4] [(100001,.arr 25 5 [.agg [iA r.vh.kind,iA r.vh.int,.str r.vh.3,sL 1 (List.map AV.str r.vh.names),sL 5 (encVs r.vl)],.agg [iA r.oh.kind,iA r.oh.int,.str r.oh.3,sL 1 (List.map AV.str r.oh.names),sL 5 (encVs r.ol)],.agg [iA r.fh.kind,iA r.fh.int,.str r.fh.3,sL 1 (List.map AV.str r.fh.names),sL 5 (encVs r.fl)],.agg [iA r.gh.kind,iA r.gh.int,.str r.gh.3,sL 1 (List.map AV.str r.gh.names),sL 5 (encVs r.gl)]] .own)] (.ret (bA b) [(100001,.arr 25 5 [.agg [iA r.vh.kind,iA r.vh.int,.str r.vh.3,sL 1 (List.map AV.str r.vh.names),sL 5 (encVs r.vl)],.agg [iA r.oh.kind,iA r.oh.int,.str r.oh.3,sL 1 (List.map AV.str r.oh.names),sL 5 (encVs r.ol)],.agg [iA r.fh.kind,iA r.fh.int,.str r.fh.3,sL 1 (List.map AV.str r.fh.names),sL 5 (encVs r.fl)],.agg [iA r.gh.kind,iA r.gh.int,.str r.gh.3,sL 1 (List.map AV.str r.gh.names),sL 5 (encVs r.gl)]] .own)]),cloHs [(100001,.arr 25 5 [.agg [iA r.vh.kind,iA r.vh.int,.str r.vh.3,sL 1 (List.map AV.str r.vh.names),sL 5 (encVs r.vl)],.agg [iA r.oh.kind,iA r.oh.int,.str r.oh.3,sL 1 (List.map AV.str r.oh.names),sL 5 (encVs r.ol)],.agg [iA r.fh.kind,iA r.fh.int,.str r.fh.3,sL 1 (List.map AV.str r.fh.names),sL 5 (encVs r.fl)],.agg [iA r.gh.kind,iA r.gh.int,.str r.gh.3,sL 1 (List.map AV.str r.gh.names),sL 5 (encVs r.gl)]] .own)]]):=kr
theorem a3_0 (W:World) (r:RQ) (o:OC) (st:Int):sF W {lp:=true,ol:=true,tl:=[4,5,6,7,8,9,10,11,12]} 3 [reqA r,outA o,iA st] [] 100000 [ee,.lg,ee,cR (bA true) [],ee,.lg,ee,cR (bA true) [],ee] []=.ok (.ret (bA true) [],[ee],[MZ W 6 [] [] (.ret (bA true) []),cloHs [],MZ W 4 [.agg [iA r.op,.str r.2,.str r.3,iA r.vh.kind,iA r.vh.int,.str r.vh.3,sL 1 (List.map AV.str r.vh.names),sL 5 (encVs r.vl),iA r.ver,iA r.oh.kind,iA r.oh.int,.str r.oh.3,sL 1 (List.map AV.str r.oh.names),sL 5 (encVs r.ol),iA r.fh.kind,iA r.fh.int,.str r.fh.3,sL 1 (List.map AV.str r.fh.names),sL 5 (encVs r.fl),bA r.ups,bA r.nw,iA r.gh.kind,iA r.gh.int,.str r.gh.3,sL 1 (List.map AV.str r.gh.names),sL 5 (encVs r.gl),iA r.ah.kind,iA r.ah.int,.str r.ah.3,sL 1 (List.map AV.str r.ah.names),sL 5 (encVs r.al),iA r.bh.kind,iA r.bh.int,.str r.bh.3,sL 1 (List.map AV.str r.bh.names),sL 5 (encVs r.bl),iA r.skip,iA r.lim,.str r.21,iA r.ph.kind,iA r.ph.int,.str r.ph.3,sL 1 (List.map AV.str r.ph.names),sL 5 (encVs r.pl),iA r.aft,.val (Value.slice r.sb r.sn r.sc),iA r.mode,iA r.batch,iA r.cur,iA r.most,iA r.ch.kind,iA r.ch.int,.str r.ch.3,sL 1 (List.map AV.str r.ch.names),sL 5 (encVs r.cl),.str r.34,bA r.uni]] [] (.ret (bA true) []),cloHs []]):=kr
theorem a3b_0 (W:World) (r:RQ) (o:OC) (st:Int):sF W {lp:=true,ol:=true,tl:=[4,5,6,7,8,9,10,11,12]} 3 [reqA r,outA o,iA st] [] 100000 [ee,.lg,ee,cR (bA false) [],ee,.lg,ee,cR (bA true) [(100002,.arr 25 5 [.agg [iA o.wh.kind,iA o.wh.int,.str o.wh.text,sL 1 (List.map AV.str o.wh.names),sL 5 (encVs o.wl)],.agg [iA o.xh.kind,iA o.xh.int,.str o.xh.text,sL 1 (List.map AV.str o.xh.names),sL 5 (encVs o.xl)]] .own)],ee,.lg,ee,cR (bA true) [],ee] []=.ok (.ret (bA true) [],[ee],[MZ W 6 [] [] (.ret (bA true) []),cloHs [],MZ W 5 [.gs 100002 0 2] [(100002,.arr 25 5 [.agg [iA o.wh.kind,iA o.wh.int,.str o.wh.3,sL 1 (List.map AV.str o.wh.names),sL 5 (encVs o.wl)],.agg [iA o.xh.kind,iA o.xh.int,.str o.xh.3,sL 1 (List.map AV.str o.xh.names),sL 5 (encVs o.xl)]] .own)] (.ret (bA true) [(100002,.arr 25 5 [.agg [iA o.wh.kind,iA o.wh.int,.str o.wh.3,sL 1 (List.map AV.str o.wh.names),sL 5 (encVs o.wl)],.agg [iA o.xh.kind,iA o.xh.int,.str o.xh.3,sL 1 (List.map AV.str o.xh.names),sL 5 (encVs o.xl)]] .own)]),cloHs [(100002,.arr 25 5 [.agg [iA o.wh.kind,iA o.wh.int,.str o.wh.3,sL 1 (List.map AV.str o.wh.names),sL 5 (encVs o.wl)],.agg [iA o.xh.kind,iA o.xh.int,.str o.xh.3,sL 1 (List.map AV.str o.xh.names),sL 5 (encVs o.xl)]] .own)],MZ W 4 [.agg [iA r.op,.str r.2,.str r.3,iA r.vh.kind,iA r.vh.int,.str r.vh.3,sL 1 (List.map AV.str r.vh.names),sL 5 (encVs r.vl),iA r.ver,iA r.oh.kind,iA r.oh.int,.str r.oh.3,sL 1 (List.map AV.str r.oh.names),sL 5 (encVs r.ol),iA r.fh.kind,iA r.fh.int,.str r.fh.3,sL 1 (List.map AV.str r.fh.names),sL 5 (encVs r.fl),bA r.ups,bA r.nw,iA r.gh.kind,iA r.gh.int,.str r.gh.3,sL 1 (List.map AV.str r.gh.names),sL 5 (encVs r.gl),iA r.ah.kind,iA r.ah.int,.str r.ah.3,sL 1 (List.map AV.str r.ah.names),sL 5 (encVs r.al),iA r.bh.kind,iA r.bh.int,.str r.bh.3,sL 1 (List.map AV.str r.bh.names),sL 5 (encVs r.bl),iA r.skip,iA r.lim,.str r.21,iA r.ph.kind,iA r.ph.int,.str r.ph.3,sL 1 (List.map AV.str r.ph.names),sL 5 (encVs r.pl),iA r.aft,.val (Value.slice r.sb r.sn r.sc),iA r.mode,iA r.batch,iA r.cur,iA r.most,iA r.ch.kind,iA r.ch.int,.str r.ch.3,sL 1 (List.map AV.str r.ch.names),sL 5 (encVs r.cl),.str r.34,bA r.uni]] [] (.ret (bA false) []),cloHs []]):=kr
theorem n3_1 (W:World) (r:RQ) (o:OC) (st kd:Int):sF W {lp:=true,ol:=true,tl:=[4,5,6,7,8,9,10,11,12]} 3 [reqA r,outA o,iA st] [] 100000 [ee,.lg,ee,cR (bA false) [],ee,.lg,ee,cR (bA false) [(100002,.arr 25 5 [.agg [iA o.wh.kind,iA o.wh.int,.str o.wh.text,sL 1 (List.map AV.str o.wh.names),sL 5 (encVs o.wl)],.agg [iA o.xh.kind,iA o.xh.int,.str o.xh.text,sL 1 (List.map AV.str o.xh.names),sL 5 (encVs o.xl)]] .own)],ee,.lg,ee,cR (.tup [.val (Value.slice none 0 0),.val (Value.slice none 0 0)]) [],ee,.lg,ee,cR (.tup [.val (Value.slice none 0 0),.val (Value.slice none 0 0)]) [],ee,.lg,ee,cR (.tup [.val (Value.slice none 0 0),.val (Value.slice none 0 0)]) [],ee,.lg,ee,cR (bA true) [],ee,.lg,ee,cR (bA true) [],ee,.lg,ee,cR (iA kd) [],ee,.lg,ee,cR (iA kd) [],aE 2,bf,ee,.lg,ee,cR (bA true) [],bf,bf,ee,.un,ee,.loopM [] [(100003,1),(100004,5)] (G3 [] [] [] [] 0 0 0) (.exit 2) (G3e [] []),ee,.lg,ee,cR (bA true) [],ee,.lg,ee,cR (bA true) [],ee] []=.ok (.ret (bA true) [],[aE 9999999],MZ W 10 [sL 5 (encVs []),sL 5 (encVs [])] [] (.ret (bA true) [])::cloHs []::MZ W 9 [sL 1 [],sL 1 []] [] (.ret (bA true) [])::cloHs []::LZ W [] 3 1 (G3 [] [] [] [] 0 0 0) (.exit 2) (G3e [] [])::MatchK [] [] [(100003,1),(100004,5)] {t:=[(7,.val (Value.slice none 0 0)),(8,.val (Value.slice none 0 0)),(9,.val (Value.slice none 0 0)),(10,.val (Value.slice none 0 0)),(11,.val (Value.slice none 0 0)),(12,.val (Value.slice none 0 0)),(14,iA 0)],h:=[(100000,gB (.agg [iA r.op,.str r.2,.str r.3,iA r.vh.kind,iA r.vh.int,.str r.vh.3,sL 1 (List.map AV.str r.vh.names),sL 5 (encVs r.vl),iA r.ver,iA r.oh.kind,iA r.oh.int,.str r.oh.3,sL 1 (List.map AV.str r.oh.names),sL 5 (encVs r.ol),iA r.fh.kind,iA r.fh.int,.str r.fh.3,sL 1 (List.map AV.str r.fh.names),sL 5 (encVs r.fl),bA r.ups,bA r.nw,iA r.gh.kind,iA r.gh.int,.str r.gh.3,sL 1 (List.map AV.str r.gh.names),sL 5 (encVs r.gl),iA r.ah.kind,iA r.ah.int,.str r.ah.3,sL 1 (List.map AV.str r.ah.names),sL 5 (encVs r.al),iA r.bh.kind,iA r.bh.int,.str r.bh.3,sL 1 (List.map AV.str r.bh.names),sL 5 (encVs r.bl),iA r.skip,iA r.lim,.str r.21,iA r.ph.kind,iA r.ph.int,.str r.ph.3,sL 1 (List.map AV.str r.ph.names),sL 5 (encVs r.pl),iA r.aft,.val (Value.slice r.sb r.sn r.sc),iA r.mode,iA r.batch,iA r.cur,iA r.most,iA r.ch.kind,iA r.ch.int,.str r.ch.3,sL 1 (List.map AV.str r.ch.names),sL 5 (encVs r.cl),.str r.34,bA r.uni])),(100001,gB (.agg [iA o.e,.str o.2,iA o.wv,iA o.wh.kind,iA o.wh.int,.str o.wh.3,sL 1 (List.map AV.str o.wh.names),sL 5 (encVs o.wl),bA o.th,.str o.7,iA o.xv,iA o.xh.kind,iA o.xh.int,.str o.xh.3,sL 1 (List.map AV.str o.xh.names),sL 5 (encVs o.xl),bA o.is,bA o.ch,bA o.fr])),(100002,.arr 25 5 [.agg [iA o.wh.kind,iA o.wh.int,.str o.wh.3,sL 1 (List.map AV.str o.wh.names),sL 5 (encVs o.wl)],.agg [iA o.xh.kind,iA o.xh.int,.str o.xh.3,sL 1 (List.map AV.str o.xh.names),sL 5 (encVs o.xl)]] .own)]} (G3 [] [] [] [] 0 0 0)::(d2 ((!decide (kd=kd))=false) [MZ W 6 [] [] (.ret (bA true) []),cloHs [],(!decide (kd=kd))=false,MZ W 12 [.agg [iA o.e,.str o.2,iA o.wv,iA o.wh.kind,iA o.wh.int,.str o.wh.3,sL 1 (List.map AV.str o.wh.names),sL 5 (encVs o.wl),bA o.th,.str o.7,iA o.xv,iA o.xh.kind,iA o.xh.int,.str o.xh.3,sL 1 (List.map AV.str o.xh.names),sL 5 (encVs o.xl),bA o.is,bA o.ch,bA o.fr]] [] (.ret (iA kd) []),cloHs [],MZ W 11 [.agg [iA o.e,.str o.2,iA o.wv,iA o.wh.kind,iA o.wh.int,.str o.wh.3,sL 1 (List.map AV.str o.wh.names),sL 5 (encVs o.wl),bA o.th,.str o.7,iA o.xv,iA o.xh.kind,iA o.xh.int,.str o.xh.3,sL 1 (List.map AV.str o.xh.names),sL 5 (encVs o.xl),bA o.is,bA o.ch,bA o.fr]] [] (.ret (iA kd) []),cloHs [],MZ W 10 [.val (Value.slice none 0 0),.val (Value.slice none 0 0)] [] (.ret (bA true) []),cloHs [],MZ W 9 [.val (Value.slice none 0 0),.val (Value.slice none 0 0)] [] (.ret (bA true) []),cloHs [],MZ W 8 [.agg [iA r.op,.str r.2,.str r.3,iA r.vh.kind,iA r.vh.int,.str r.vh.3,sL 1 (List.map AV.str r.vh.names),sL 5 (encVs r.vl),iA r.ver,iA r.oh.kind,iA r.oh.int,.str r.oh.3,sL 1 (List.map AV.str r.oh.names),sL 5 (encVs r.ol),iA r.fh.kind,iA r.fh.int,.str r.fh.3,sL 1 (List.map AV.str r.fh.names),sL 5 (encVs r.fl),bA r.ups,bA r.nw,iA r.gh.kind,iA r.gh.int,.str r.gh.3,sL 1 (List.map AV.str r.gh.names),sL 5 (encVs r.gl),iA r.ah.kind,iA r.ah.int,.str r.ah.3,sL 1 (List.map AV.str r.ah.names),sL 5 (encVs r.al),iA r.bh.kind,iA r.bh.int,.str r.bh.3,sL 1 (List.map AV.str r.bh.names),sL 5 (encVs r.bl),iA r.skip,iA r.lim,.str r.21,iA r.ph.kind,iA r.ph.int,.str r.ph.3,sL 1 (List.map AV.str r.ph.names),sL 5 (encVs r.pl),iA r.aft,.val (Value.slice r.sb r.sn r.sc),iA r.mode,iA r.batch,iA r.cur,iA r.most,iA r.ch.kind,iA r.ch.int,.str r.ch.3,sL 1 (List.map AV.str r.ch.names),sL 5 (encVs r.cl),.str r.34,bA r.uni],.agg [iA o.e,.str o.2,iA o.wv,iA o.wh.kind,iA o.wh.int,.str o.wh.3,sL 1 (List.map AV.str o.wh.names),sL 5 (encVs o.wl),bA o.th,.str o.7,iA o.xv,iA o.xh.kind,iA o.xh.int,.str o.xh.3,sL 1 (List.map AV.str o.xh.names),sL 5 (encVs o.xl),bA o.is,bA o.ch,bA o.fr],iA st] [] (.ret (.tup [.val (Value.slice none 0 0),.val (Value.slice none 0 0)]) []),cloHs [],MZ W 7 [.agg [iA r.op,.str r.2,.str r.3,iA r.vh.kind,iA r.vh.int,.str r.vh.3,sL 1 (List.map AV.str r.vh.names),sL 5 (encVs r.vl),iA r.ver,iA r.oh.kind,iA r.oh.int,.str r.oh.3,sL 1 (List.map AV.str r.oh.names),sL 5 (encVs r.ol),iA r.fh.kind,iA r.fh.int,.str r.fh.3,sL 1 (List.map AV.str r.fh.names),sL 5 (encVs r.fl),bA r.ups,bA r.nw,iA r.gh.kind,iA r.gh.int,.str r.gh.3,sL 1 (List.map AV.str r.gh.names),sL 5 (encVs r.gl),iA r.ah.kind,iA r.ah.int,.str r.ah.3,sL 1 (List.map AV.str r.ah.names),sL 5 (encVs r.al),iA r.bh.kind,iA r.bh.int,.str r.bh.3,sL 1 (List.map AV.str r.bh.names),sL 5 (encVs r.bl),iA r.skip,iA r.lim,.str r.21,iA r.ph.kind,iA r.ph.int,.str r.ph.3,sL 1 (List.map AV.str r.ph.names),sL 5 (encVs r.pl),iA r.aft,.val (Value.slice r.sb r.sn r.sc),iA r.mode,iA r.batch,iA r.cur,iA r.most,iA r.ch.kind,iA r.ch.int,.str r.ch.3,sL 1 (List.map AV.str r.ch.names),sL 5 (encVs r.cl),.str r.34,bA r.uni],.agg [iA o.e,.str o.2,iA o.wv,iA o.wh.kind,iA o.wh.int,.str o.wh.3,sL 1 (List.map AV.str o.wh.names),sL 5 (encVs o.wl),bA o.th,.str o.7,iA o.xv,iA o.xh.kind,iA o.xh.int,.str o.xh.3,sL 1 (List.map AV.str o.xh.names),sL 5 (encVs o.xl),bA o.is,bA o.ch,bA o.fr],iA st] [] (.ret (.tup [.val (Value.slice none 0 0),.val (Value.slice none 0 0)]) []),cloHs [],MZ W 7 [.agg [iA r.op,.str r.2,.str r.3,iA r.vh.kind,iA r.vh.int,.str r.vh.3,sL 1 (List.map AV.str r.vh.names),sL 5 (encVs r.vl),iA r.ver,iA r.oh.kind,iA r.oh.int,.str r.oh.3,sL 1 (List.map AV.str r.oh.names),sL 5 (encVs r.ol),iA r.fh.kind,iA r.fh.int,.str r.fh.3,sL 1 (List.map AV.str r.fh.names),sL 5 (encVs r.fl),bA r.ups,bA r.nw,iA r.gh.kind,iA r.gh.int,.str r.gh.3,sL 1 (List.map AV.str r.gh.names),sL 5 (encVs r.gl),iA r.ah.kind,iA r.ah.int,.str r.ah.3,sL 1 (List.map AV.str r.ah.names),sL 5 (encVs r.al),iA r.bh.kind,iA r.bh.int,.str r.bh.3,sL 1 (List.map AV.str r.bh.names),sL 5 (encVs r.bl),iA r.skip,iA r.lim,.str r.21,iA r.ph.kind,iA r.ph.int,.str r.ph.3,sL 1 (List.map AV.str r.ph.names),sL 5 (encVs r.pl),iA r.aft,.val (Value.slice r.sb r.sn r.sc),iA r.mode,iA r.batch,iA r.cur,iA r.most,iA r.ch.kind,iA r.ch.int,.str r.ch.3,sL 1 (List.map AV.str r.ch.names),sL 5 (encVs r.cl),.str r.34,bA r.uni],.agg [iA o.e,.str o.2,iA o.wv,iA o.wh.kind,iA o.wh.int,.str o.wh.3,sL 1 (List.map AV.str o.wh.names),sL 5 (encVs o.wl),bA o.th,.str o.7,iA o.xv,iA o.xh.kind,iA o.xh.int,.str o.xh.3,sL 1 (List.map AV.str o.xh.names),sL 5 (encVs o.xl),bA o.is,bA o.ch,bA o.fr],iA st] [] (.ret (.tup [.val (Value.slice none 0 0),.val (Value.slice none 0 0)]) []),cloHs [],MZ W 5 [.gs 100002 0 2] [(100002,.arr 25 5 [.agg [iA o.wh.kind,iA o.wh.int,.str o.wh.3,sL 1 (List.map AV.str o.wh.names),sL 5 (encVs o.wl)],.agg [iA o.xh.kind,iA o.xh.int,.str o.xh.3,sL 1 (List.map AV.str o.xh.names),sL 5 (encVs o.xl)]] .own)] (.ret (bA false) [(100002,.arr 25 5 [.agg [iA o.wh.kind,iA o.wh.int,.str o.wh.3,sL 1 (List.map AV.str o.wh.names),sL 5 (encVs o.wl)],.agg [iA o.xh.kind,iA o.xh.int,.str o.xh.3,sL 1 (List.map AV.str o.xh.names),sL 5 (encVs o.xl)]] .own)]),cloHs [(100002,.arr 25 5 [.agg [iA o.wh.kind,iA o.wh.int,.str o.wh.3,sL 1 (List.map AV.str o.wh.names),sL 5 (encVs o.wl)],.agg [iA o.xh.kind,iA o.xh.int,.str o.xh.3,sL 1 (List.map AV.str o.xh.names),sL 5 (encVs o.xl)]] .own)],MZ W 4 [.agg [iA r.op,.str r.2,.str r.3,iA r.vh.kind,iA r.vh.int,.str r.vh.3,sL 1 (List.map AV.str r.vh.names),sL 5 (encVs r.vl),iA r.ver,iA r.oh.kind,iA r.oh.int,.str r.oh.3,sL 1 (List.map AV.str r.oh.names),sL 5 (encVs r.ol),iA r.fh.kind,iA r.fh.int,.str r.fh.3,sL 1 (List.map AV.str r.fh.names),sL 5 (encVs r.fl),bA r.ups,bA r.nw,iA r.gh.kind,iA r.gh.int,.str r.gh.3,sL 1 (List.map AV.str r.gh.names),sL 5 (encVs r.gl),iA r.ah.kind,iA r.ah.int,.str r.ah.3,sL 1 (List.map AV.str r.ah.names),sL 5 (encVs r.al),iA r.bh.kind,iA r.bh.int,.str r.bh.3,sL 1 (List.map AV.str r.bh.names),sL 5 (encVs r.bl),iA r.skip,iA r.lim,.str r.21,iA r.ph.kind,iA r.ph.int,.str r.ph.3,sL 1 (List.map AV.str r.ph.names),sL 5 (encVs r.pl),iA r.aft,.val (Value.slice r.sb r.sn r.sc),iA r.mode,iA r.batch,iA r.cur,iA r.most,iA r.ch.kind,iA r.ch.int,.str r.ch.3,sL 1 (List.map AV.str r.ch.names),sL 5 (encVs r.cl),.str r.34,bA r.uni]] [] (.ret (bA false) []),cloHs []])):=kr
theorem p3_1 (W:World) (r:RQ) (o:OC) (L:List JV) (A I:List AV) (N:List (List UInt8)) (st kd:Int) (n:Nat) (A2 I2:List AV):sF W {lp:=true,ol:=true,tl:=[4,5,6,7,8,9,10,11,12]} 3 [reqA r,outA o,iA st] [] 100000 [ee,.lg,ee,cR (bA false) [],ee,.lg,ee,cR (bA false) [(100002,.arr 25 5 [.agg [iA o.wh.kind,iA o.wh.int,.str o.wh.text,sL 1 (List.map AV.str o.wh.names),sL 5 (encVs o.wl)],.agg [iA o.xh.kind,iA o.xh.int,.str o.xh.text,sL 1 (List.map AV.str o.xh.names),sL 5 (encVs o.xl)]] .own)],ee,.lg,ee,cR (.tup [.gs 100003 0 n,.gs 100004 0 n]) [(100003,.arr 9 1 A .own),(100004,.arr 25 5 I .own)],ee,.lg,ee,cR (ansA N L) [],ee,.lg,ee,cR (ansA N L) [],ee,.lg,ee,cR (bA true) [(100003,.arr 9 1 A .own)],ee,.lg,ee,cR (bA true) [(100004,.arr 25 5 I .own)],ee,.lg,ee,cR (iA kd) [],ee,.lg,ee,cR (iA kd) [],aE 2,bf,ee,.lg,ee,cR (bA true) [],bf,bf,ee,.loopM [] [] (P3 A I N L n 0) (.exit 0) (P3e A2 I2 N L n),ee,.loopM [] [] (G3 A2 I2 N L n n 0) (.exit 2) (G3e N L),ee,.lg,ee,cR (bA true) [],ee,.lg,ee,cR (bA true) [],ee] []=.ok (.ret (bA true) [],[aE 9999999],MZ W 10 [sL 5 (encVs L),sL 5 (encVs L)] [] (.ret (bA true) [])::cloHs []::MZ W 9 [sL 1 (List.map AV.str N),sL 1 (List.map AV.str N)] [] (.ret (bA true) [])::cloHs []::LZ W [] 3 1 (G3 A2 I2 N L n n 0) (.exit 2) (G3e N L)::MatchK [] [] [] {t:=[(7,.gs 100003 0 n),(8,.gs 100004 0 n),(9,sL 1 (List.map AV.str N)),(10,sL 5 (encVs L)),(11,sL 1 (List.map AV.str N)),(12,sL 5 (encVs L)),(14,iA 0)],h:=[(100003,.arr 9 1 A2 .own),(100004,.arr 25 5 I2 .own)]} (G3 A2 I2 N L n n 0)::LZ W [] 3 0 (P3 A I N L n 0) (.exit 0) (P3e A2 I2 N L n)::MatchK [] [] [] {t:=[(7,.gs 100003 0 n),(8,.gs 100004 0 n),(9,sL 1 (List.map AV.str N)),(10,sL 5 (encVs L)),(11,sL 1 (List.map AV.str N)),(12,sL 5 (encVs L)),(13,iA 0)],h:=[(100000,gB (.agg [iA r.op,.str r.2,.str r.3,iA r.vh.kind,iA r.vh.int,.str r.vh.3,sL 1 (List.map AV.str r.vh.names),sL 5 (encVs r.vl),iA r.ver,iA r.oh.kind,iA r.oh.int,.str r.oh.3,sL 1 (List.map AV.str r.oh.names),sL 5 (encVs r.ol),iA r.fh.kind,iA r.fh.int,.str r.fh.3,sL 1 (List.map AV.str r.fh.names),sL 5 (encVs r.fl),bA r.ups,bA r.nw,iA r.gh.kind,iA r.gh.int,.str r.gh.3,sL 1 (List.map AV.str r.gh.names),sL 5 (encVs r.gl),iA r.ah.kind,iA r.ah.int,.str r.ah.3,sL 1 (List.map AV.str r.ah.names),sL 5 (encVs r.al),iA r.bh.kind,iA r.bh.int,.str r.bh.3,sL 1 (List.map AV.str r.bh.names),sL 5 (encVs r.bl),iA r.skip,iA r.lim,.str r.21,iA r.ph.kind,iA r.ph.int,.str r.ph.3,sL 1 (List.map AV.str r.ph.names),sL 5 (encVs r.pl),iA r.aft,.val (Value.slice r.sb r.sn r.sc),iA r.mode,iA r.batch,iA r.cur,iA r.most,iA r.ch.kind,iA r.ch.int,.str r.ch.3,sL 1 (List.map AV.str r.ch.names),sL 5 (encVs r.cl),.str r.34,bA r.uni])),(100001,gB (.agg [iA o.e,.str o.2,iA o.wv,iA o.wh.kind,iA o.wh.int,.str o.wh.3,sL 1 (List.map AV.str o.wh.names),sL 5 (encVs o.wl),bA o.th,.str o.7,iA o.xv,iA o.xh.kind,iA o.xh.int,.str o.xh.3,sL 1 (List.map AV.str o.xh.names),sL 5 (encVs o.xl),bA o.is,bA o.ch,bA o.fr])),(100002,.arr 25 5 [.agg [iA o.wh.kind,iA o.wh.int,.str o.wh.3,sL 1 (List.map AV.str o.wh.names),sL 5 (encVs o.wl)],.agg [iA o.xh.kind,iA o.xh.int,.str o.xh.3,sL 1 (List.map AV.str o.xh.names),sL 5 (encVs o.xl)]] .own),(100003,.arr 9 1 A .own),(100004,.arr 25 5 I .own)]} (P3 A I N L n 0)::(d2 ((!decide (kd=kd))=false) [MZ W 6 [] [] (.ret (bA true) []),cloHs [],(!decide (kd=kd))=false,MZ W 12 [.agg [iA o.e,.str o.2,iA o.wv,iA o.wh.kind,iA o.wh.int,.str o.wh.3,sL 1 (List.map AV.str o.wh.names),sL 5 (encVs o.wl),bA o.th,.str o.7,iA o.xv,iA o.xh.kind,iA o.xh.int,.str o.xh.3,sL 1 (List.map AV.str o.xh.names),sL 5 (encVs o.xl),bA o.is,bA o.ch,bA o.fr]] [] (.ret (iA kd) []),cloHs [],MZ W 11 [.agg [iA o.e,.str o.2,iA o.wv,iA o.wh.kind,iA o.wh.int,.str o.wh.3,sL 1 (List.map AV.str o.wh.names),sL 5 (encVs o.wl),bA o.th,.str o.7,iA o.xv,iA o.xh.kind,iA o.xh.int,.str o.xh.3,sL 1 (List.map AV.str o.xh.names),sL 5 (encVs o.xl),bA o.is,bA o.ch,bA o.fr]] [] (.ret (iA kd) []),cloHs [],MZ W 10 [.gs 100004 0 n,sL 5 (encVs L)] [(100004,.arr 25 5 I .own)] (.ret (bA true) [(100004,.arr 25 5 I .own)]),cloHs [(100004,.arr 25 5 I .own)],MZ W 9 [.gs 100003 0 n,sL 1 (List.map AV.str N)] [(100003,.arr 9 1 A .own)] (.ret (bA true) [(100003,.arr 9 1 A .own)]),cloHs [(100003,.arr 9 1 A .own)],MZ W 8 [.agg [iA r.op,.str r.2,.str r.3,iA r.vh.kind,iA r.vh.int,.str r.vh.3,sL 1 (List.map AV.str r.vh.names),sL 5 (encVs r.vl),iA r.ver,iA r.oh.kind,iA r.oh.int,.str r.oh.3,sL 1 (List.map AV.str r.oh.names),sL 5 (encVs r.ol),iA r.fh.kind,iA r.fh.int,.str r.fh.3,sL 1 (List.map AV.str r.fh.names),sL 5 (encVs r.fl),bA r.ups,bA r.nw,iA r.gh.kind,iA r.gh.int,.str r.gh.3,sL 1 (List.map AV.str r.gh.names),sL 5 (encVs r.gl),iA r.ah.kind,iA r.ah.int,.str r.ah.3,sL 1 (List.map AV.str r.ah.names),sL 5 (encVs r.al),iA r.bh.kind,iA r.bh.int,.str r.bh.3,sL 1 (List.map AV.str r.bh.names),sL 5 (encVs r.bl),iA r.skip,iA r.lim,.str r.21,iA r.ph.kind,iA r.ph.int,.str r.ph.3,sL 1 (List.map AV.str r.ph.names),sL 5 (encVs r.pl),iA r.aft,.val (Value.slice r.sb r.sn r.sc),iA r.mode,iA r.batch,iA r.cur,iA r.most,iA r.ch.kind,iA r.ch.int,.str r.ch.3,sL 1 (List.map AV.str r.ch.names),sL 5 (encVs r.cl),.str r.34,bA r.uni],.agg [iA o.e,.str o.2,iA o.wv,iA o.wh.kind,iA o.wh.int,.str o.wh.3,sL 1 (List.map AV.str o.wh.names),sL 5 (encVs o.wl),bA o.th,.str o.7,iA o.xv,iA o.xh.kind,iA o.xh.int,.str o.xh.3,sL 1 (List.map AV.str o.xh.names),sL 5 (encVs o.xl),bA o.is,bA o.ch,bA o.fr],iA st] [] (.ret (.tup [sL 1 (List.map AV.str N),sL 5 (encVs L)]) []),cloHs [],MZ W 7 [.agg [iA r.op,.str r.2,.str r.3,iA r.vh.kind,iA r.vh.int,.str r.vh.3,sL 1 (List.map AV.str r.vh.names),sL 5 (encVs r.vl),iA r.ver,iA r.oh.kind,iA r.oh.int,.str r.oh.3,sL 1 (List.map AV.str r.oh.names),sL 5 (encVs r.ol),iA r.fh.kind,iA r.fh.int,.str r.fh.3,sL 1 (List.map AV.str r.fh.names),sL 5 (encVs r.fl),bA r.ups,bA r.nw,iA r.gh.kind,iA r.gh.int,.str r.gh.3,sL 1 (List.map AV.str r.gh.names),sL 5 (encVs r.gl),iA r.ah.kind,iA r.ah.int,.str r.ah.3,sL 1 (List.map AV.str r.ah.names),sL 5 (encVs r.al),iA r.bh.kind,iA r.bh.int,.str r.bh.3,sL 1 (List.map AV.str r.bh.names),sL 5 (encVs r.bl),iA r.skip,iA r.lim,.str r.21,iA r.ph.kind,iA r.ph.int,.str r.ph.3,sL 1 (List.map AV.str r.ph.names),sL 5 (encVs r.pl),iA r.aft,.val (Value.slice r.sb r.sn r.sc),iA r.mode,iA r.batch,iA r.cur,iA r.most,iA r.ch.kind,iA r.ch.int,.str r.ch.3,sL 1 (List.map AV.str r.ch.names),sL 5 (encVs r.cl),.str r.34,bA r.uni],.agg [iA o.e,.str o.2,iA o.wv,iA o.wh.kind,iA o.wh.int,.str o.wh.3,sL 1 (List.map AV.str o.wh.names),sL 5 (encVs o.wl),bA o.th,.str o.7,iA o.xv,iA o.xh.kind,iA o.xh.int,.str o.xh.3,sL 1 (List.map AV.str o.xh.names),sL 5 (encVs o.xl),bA o.is,bA o.ch,bA o.fr],iA st] [] (.ret (.tup [sL 1 (List.map AV.str N),sL 5 (encVs L)]) []),cloHs [],MZ W 7 [.agg [iA r.op,.str r.2,.str r.3,iA r.vh.kind,iA r.vh.int,.str r.vh.3,sL 1 (List.map AV.str r.vh.names),sL 5 (encVs r.vl),iA r.ver,iA r.oh.kind,iA r.oh.int,.str r.oh.3,sL 1 (List.map AV.str r.oh.names),sL 5 (encVs r.ol),iA r.fh.kind,iA r.fh.int,.str r.fh.3,sL 1 (List.map AV.str r.fh.names),sL 5 (encVs r.fl),bA r.ups,bA r.nw,iA r.gh.kind,iA r.gh.int,.str r.gh.3,sL 1 (List.map AV.str r.gh.names),sL 5 (encVs r.gl),iA r.ah.kind,iA r.ah.int,.str r.ah.3,sL 1 (List.map AV.str r.ah.names),sL 5 (encVs r.al),iA r.bh.kind,iA r.bh.int,.str r.bh.3,sL 1 (List.map AV.str r.bh.names),sL 5 (encVs r.bl),iA r.skip,iA r.lim,.str r.21,iA r.ph.kind,iA r.ph.int,.str r.ph.3,sL 1 (List.map AV.str r.ph.names),sL 5 (encVs r.pl),iA r.aft,.val (Value.slice r.sb r.sn r.sc),iA r.mode,iA r.batch,iA r.cur,iA r.most,iA r.ch.kind,iA r.ch.int,.str r.ch.3,sL 1 (List.map AV.str r.ch.names),sL 5 (encVs r.cl),.str r.34,bA r.uni],.agg [iA o.e,.str o.2,iA o.wv,iA o.wh.kind,iA o.wh.int,.str o.wh.3,sL 1 (List.map AV.str o.wh.names),sL 5 (encVs o.wl),bA o.th,.str o.7,iA o.xv,iA o.xh.kind,iA o.xh.int,.str o.xh.3,sL 1 (List.map AV.str o.xh.names),sL 5 (encVs o.xl),bA o.is,bA o.ch,bA o.fr],iA st] [] (.ret (.tup [.gs 100003 0 n,.gs 100004 0 n]) [(100003,.arr 9 1 A .own),(100004,.arr 25 5 I .own)]),cloHs [],MZ W 5 [.gs 100002 0 2] [(100002,.arr 25 5 [.agg [iA o.wh.kind,iA o.wh.int,.str o.wh.3,sL 1 (List.map AV.str o.wh.names),sL 5 (encVs o.wl)],.agg [iA o.xh.kind,iA o.xh.int,.str o.xh.3,sL 1 (List.map AV.str o.xh.names),sL 5 (encVs o.xl)]] .own)] (.ret (bA false) [(100002,.arr 25 5 [.agg [iA o.wh.kind,iA o.wh.int,.str o.wh.3,sL 1 (List.map AV.str o.wh.names),sL 5 (encVs o.wl)],.agg [iA o.xh.kind,iA o.xh.int,.str o.xh.3,sL 1 (List.map AV.str o.xh.names),sL 5 (encVs o.xl)]] .own)]),cloHs [(100002,.arr 25 5 [.agg [iA o.wh.kind,iA o.wh.int,.str o.wh.3,sL 1 (List.map AV.str o.wh.names),sL 5 (encVs o.wl)],.agg [iA o.xh.kind,iA o.xh.int,.str o.xh.3,sL 1 (List.map AV.str o.xh.names),sL 5 (encVs o.xl)]] .own)],MZ W 4 [.agg [iA r.op,.str r.2,.str r.3,iA r.vh.kind,iA r.vh.int,.str r.vh.3,sL 1 (List.map AV.str r.vh.names),sL 5 (encVs r.vl),iA r.ver,iA r.oh.kind,iA r.oh.int,.str r.oh.3,sL 1 (List.map AV.str r.oh.names),sL 5 (encVs r.ol),iA r.fh.kind,iA r.fh.int,.str r.fh.3,sL 1 (List.map AV.str r.fh.names),sL 5 (encVs r.fl),bA r.ups,bA r.nw,iA r.gh.kind,iA r.gh.int,.str r.gh.3,sL 1 (List.map AV.str r.gh.names),sL 5 (encVs r.gl),iA r.ah.kind,iA r.ah.int,.str r.ah.3,sL 1 (List.map AV.str r.ah.names),sL 5 (encVs r.al),iA r.bh.kind,iA r.bh.int,.str r.bh.3,sL 1 (List.map AV.str r.bh.names),sL 5 (encVs r.bl),iA r.skip,iA r.lim,.str r.21,iA r.ph.kind,iA r.ph.int,.str r.ph.3,sL 1 (List.map AV.str r.ph.names),sL 5 (encVs r.pl),iA r.aft,.val (Value.slice r.sb r.sn r.sc),iA r.mode,iA r.batch,iA r.cur,iA r.most,iA r.ch.kind,iA r.ch.int,.str r.ch.3,sL 1 (List.map AV.str r.ch.names),sL 5 (encVs r.cl),.str r.34,bA r.uni]] [] (.ret (bA false) []),cloHs []])):=kr
theorem b9_1 (W:World) (N:List (List UInt8)) (x:List UInt8) (i:Nat):sQ W {lp:=true,ol:=true,tl:=[]} 9 0 [] [0,1,4,5] (S9t N i) [bt,aE 1,oS (.str x),aE 1,oS (.str x),bf,ee]=.ok ((.normal,{t:=[(0,sL 1 (List.map AV.str N)),(1,sL 1 (List.map AV.str N)),(5,iA (IntKind.i64.wrap ((i:Int)+1)))],h:=[]}),[ee],((!decide (x=x))=false)::(d2 ((List.map AV.str N)[(i:Int).toNat]?=some (AV.str x)) [decide ((i:Int)<(↑(List.map AV.str N).length:Int))=true])):=kr
theorem b9_2 (W:World) (N:List (List UInt8)) (i:Nat):sQ W {lp:=true,ol:=true,tl:=[]} 9 0 [] [0,1,4,5] (S9t N i) [bf,ee]=.ok ((.exit 0,{t:=[(0,sL 1 (List.map AV.str N)),(1,sL 1 (List.map AV.str N)),(5,iA (i:Int))],h:=[]}),[ee],[decide ((i:Int)<(↑(List.map AV.str N).length:Int))=false]):=kr
theorem b10_0 (W:World) (hx:JH) (lx L:List JV) (i:Nat):sQ W {lp:=true,ol:=true,tl:=[23]} 10 0 [] [0,1,4,5] (S10t L i) [bt,aE 1,oS (eV hx lx),aE 1,oS (eV hx lx),ee,.lg,ee,cR (bA true) [],ee]=.ok ((.normal,{t:=[(0,sL 5 (encVs L)),(1,sL 5 (encVs L)),(5,iA (IntKind.i64.wrap ((i:Int)+1)))],h:=[]}),[aE 9999999],MZ W 23 [eV hx lx,eV hx lx] [] (.ret (bA true) [])::cloHs []::(d2 ((encVs L)[(i:Int).toNat]?=some (eV hx lx)) [decide ((i:Int)<(↑(encVs L).length:Int))=true])):=kr
theorem b10_1 (W:World) (L:List JV) (i:Nat):sQ W {lp:=true,ol:=true,tl:=[23]} 10 0 [] [0,1,4,5] (S10t L i) [bf,ee]=.ok ((.exit 0,{t:=[(0,sL 5 (encVs L)),(1,sL 5 (encVs L)),(5,iA (i:Int))],h:=[]}),[ee],[decide ((i:Int)<(↑(encVs L).length:Int))=false]):=kr
theorem q3_0 (W:World) (L:List JV) (A I:List AV) (N:List (List UInt8)) (x:List UInt8) (n i:Nat) (c0 c1 c2 c3 c4:AV):sQ W {lp:=true,ol:=true,tl:=[]} 3 0 [] [6,7,8,9,10,11,12,13] (P3 A I N L n i) [bt,.lg,oS (.str x),.lg,oS (.agg [c0,c1,c2,c3,c4]),ee]=.ok ((.normal,{t:=[(7,.gs 100003 0 n),(8,.gs 100004 0 n),(9,sL 1 (List.map AV.str N)),(10,sL 5 (encVs L)),(11,sL 1 (List.map AV.str N)),(12,sL 5 (encVs L)),(13,iA (IntKind.i64.wrap ((i:Int)+1)))],h:=[(100003,.arr 9 1 (A.set (0+(i:Int).toNat) (.str [115,112,111,105,108,116])) .own),(100004,.arr 25 5 (I.set (0+(i:Int).toNat) (.agg [iA 3,iA 99,.str [],.val (Value.slice none 0 0),.val (Value.slice none 0 0)])) .own)]}),[ee],[I[0+(i:Int).toNat]?=some (AV.agg [c0,c1,c2,c3,c4]),0<=(i:Int)/\(i:Int)<(n:Int),A[0+(i:Int).toNat]?=some (AV.str x),0<=(i:Int)/\(i:Int)<(n:Int),decide ((i:Int)<(n:Int))=true]):=kr
theorem q3_1 (W:World) (L:List JV) (A I:List AV) (N:List (List UInt8)) (n i:Nat):sQ W {lp:=true,ol:=true,tl:=[]} 3 0 [] [6,7,8,9,10,11,12,13] (P3 A I N L n i) [bf,ee]=.ok ((.exit 0,{t:=[(7,.gs 100003 0 n),(8,.gs 100004 0 n),(9,sL 1 (List.map AV.str N)),(10,sL 5 (encVs L)),(11,sL 1 (List.map AV.str N)),(12,sL 5 (encVs L)),(13,iA (i:Int))],h:=[(100003,.arr 9 1 A .own),(100004,.arr 25 5 I .own)]}),[ee],[decide ((i:Int)<(n:Int))=false]):=kr
theorem g3_0 (W:World) (L:List JV) (A I:List AV) (N:List (List UInt8)) (n m i:Nat):sQ W {lp:=true,ol:=true,tl:=[]} 3 1 [] [6,7,8,9,10,11,12,14] (G3 A I N L n m i) [bt,aE 1,.lg,.lg,aE 1,.lg,.lg,ee]=.ok ((.normal,{t:=[(7,.gs 100006 0 (n+[AV.str [103,114,111,119,110]].length)),(8,.gs 100008 0 (m+[AV.agg [iA 3,iA 98,.str [],.val (Value.slice none 0 0),.val (Value.slice none 0 0)]].length)),(9,sL 1 (List.map AV.str N)),(10,sL 5 (encVs L)),(11,sL 1 (List.map AV.str N)),(12,sL 5 (encVs L)),(14,iA (IntKind.i64.wrap ((i:Int)+1)))],h:=[(100003,.dead),(100004,.dead),(100005,.arr 9 1 [.str [103,114,111,119,110]] .own),(100006,.arr 9 1 (List.take n A++[AV.str [103,114,111,119,110]]) .own),(100007,.arr 25 5 [.agg [iA 3,iA 98,.str [],.val (Value.slice none 0 0),.val (Value.slice none 0 0)]] .own),(100008,.arr 25 5 (List.take m I++[AV.agg [iA 3,iA 98,.str [],.val (Value.slice none 0 0),.val (Value.slice none 0 0)]]) .own)]}),[ee],[(m+[AV.agg [iA 3,iA 98,.str [],.val (Value.slice none 0 0),.val (Value.slice none 0 0)]].length) * 80<=140737488355328,(St.own=St.own\/St.own=St.shr/\m=I.length)/\m<=I.length,(n+[AV.str [103,114,111,119,110]].length) * 16<=140737488355328,(St.own=St.own\/St.own=St.shr/\n=A.length)/\n<=A.length,decide ((i:Int)<8)=true]):=kr
theorem g3_1 (W:World) (L:List JV) (A I:List AV) (N:List (List UInt8)) (n m i:Nat):sQ W {lp:=true,ol:=true,tl:=[]} 3 1 [] [6,7,8,9,10,11,12,14] (G3 A I N L n m i) [bf,ee]=.ok ((.exit 2,{t:=[(7,.gs 100003 0 n),(8,.gs 100004 0 m),(9,sL 1 (List.map AV.str N)),(10,sL 5 (encVs L)),(11,sL 1 (List.map AV.str N)),(12,sL 5 (encVs L)),(14,iA (i:Int))],h:=[(100003,.arr 9 1 A .own),(100004,.arr 25 5 I .own)]}),[ee],[decide ((i:Int)<8)=false]):=kr
theorem zhz {p:Prop} (h:p:=by and_intros<;>first|exact trivial|exact gOK_ph' rfl (by decide) rfl|exact gOK_arr rfl rfl (by assumption) (by assumption)|exact gOK_arr rfl rfl rfl (by assumption)|exact gOK_eq rfl rfl rfl):p:=h
theorem zvz {p:Prop} (h:p:=by and_intros<;>first|rfl|exact trivial|exact allN_cloL (by assumption)|exact allN_cloL (encVs_clo _)|exact allN_cloL (cloL_str _)|exact allN_clo zb):p:=h
theorem zpz {φ ph x y} (h:LeP φ ph x y:=by first|exact .nilS|exact zl|exact .eq (congrArg (AV.gs _ 0) (by assumption)) rfl|exact .same rfl (by simp only [AV.clo,encVs_clo,cloL_str,cloL,Bool.and_self])):LeP φ ph x y:=h
theorem ztz {p:Prop} (h:p:=by and_intros<;>first|exact trivial|exact zpz):p:=h
theorem Ti_z1 {kp f ph σ σ'} (h:MatchK kp f ph σ σ':=by exact ⟨by rfl,(by simp only [S9t,S10t,Ee,P3,P3e,G3,G3e,tOK,List.map_cons,List.map_nil,and_true]<;>exact ztz),(by simp only [S9t,S10t,Ee,P3,P3e,G3,G3e,hOK,List.map_cons,List.map_nil,and_true]<;>exact zhz),(by simp only [S9t,S10t,Ee,P3,P3e,G3,G3e,liveT,List.map_cons,List.map_nil,and_true]<;>exact zvz),(by simp only [S9t,S10t,Ee,P3,P3e,G3,G3e,liveH,List.map_cons,List.map_nil,and_true]<;>exact zvz)⟩):MatchK kp f ph σ σ':=h
theorem Ti_z2 {cs} (h:Holds cs:=by simp only [Holds,cloHs,and_true]<;>and_intros<;>first|assumption|exact zd|exact trivial|exact .inl rfl|exact cloL_str _|exact encVs_clo _|exact Ti_z1):Holds cs:=h
theorem cloL_set:∀ {l:List AV} {i:Nat} {a:AV},cloL l=true->a.clo=true->cloL (l.set i a)=true
 | [],i,a,h,ha=>by simp [cloL]
 | x::l,0,a,h,ha=>by simp only [cloL,Bool.and_eq_true] at h;simp only [List.set_cons_zero,cloL,ha,h.2,Bool.and_self]
 | x::l,i+1,a,h,ha=>by simp only [cloL,Bool.and_eq_true] at h;simp only [List.set_cons_succ,cloL,h.1,cloL_set h.2 ha,Bool.and_self]
theorem call3:callable Tryz.prog 3=true:=kr
theorem call4:callable Tryz.prog 4=true:=kr
theorem call5:callable Tryz.prog 5=true:=kr
theorem call9:callable Tryz.prog 9=true:=kr
theorem call10:callable Tryz.prog 10=true:=kr
section
variable (W:World)
theorem texts9 (N:List (List UInt8)) (hl:N.length<=2 ^ 30):Pure Tryz.prog W 9 [.sl 1 (N.map AV.str) [],.sl 1 (N.map AV.str) []] (bA true):=by
 have loop:∀ (j i:Nat),N.length - i=j->i<=N.length->LoopC Tryz.prog W [] (nslots Tryz.prog 9) (loopOf Tryz.prog 9 0) (S9t N i) (.exit 0) Ee:=by
  intro j
  induction j with
  | zero =>
   intro i hj hi
   have e:decide ((i:Int)<((List.map AV.str N).length:Int))=false:=by rw [List.length_map];exact decide_eq_false (by omega)
   exact loop_last (by simp) (body_of_sbodyK mixedz (b9_2 W N i) Ti_z2 [] [] Ti_z1)
  | succ j ih =>
   intro i hj hi
   obtain ⟨x,hx⟩:=getOf (l:=N) (i:=i) (by omega)
   have e:decide ((i:Int)<((List.map AV.str N).length:Int))=true:=by rw [List.length_map];exact decide_eq_true (by omega)
   have hget:(List.map AV.str N)[((i:Int)).toNat]?=some (AV.str x):=by rw [Int.toNat_natCast];exact strs_get hx
   have hws:IntKind.i64.wrap ((i:Int)+1)=((i+1:Nat):Int):=wrap_succ (by omega)
   have c:(!decide (x=x))=false:=by rw [decide_eq_true rfl];rfl
   exact loop_next (body_of_sbodyK mixedz (b9_1 W N x i) Ti_z2 [] [] (σ3:=S9t N (i+1)) Ti_z1) (ih (i+1) (by omega) (by omega))
 have h:=loop N.length 0 (by omega) (by omega)
 have e:(!decide (((List.map AV.str N).length:Int)=((List.map AV.str N).length:Int)))=false:=by rw [decide_eq_true rfl];rfl
 exact pure_of_mut rfl (mut_of_sfun mixedz call9 rfl (t9_1 W N) Ti_z2)
theorem values10 (L:List JV) (hl:L.length<=2 ^ 30) (hc:∀ y ∈ L,cntV y<=2 ^ 30):Pure Tryz.prog W 10 [.sl 5 (encVs L) [],.sl 5 (encVs L) []] (bA true):=by
 have hlen:=encVs_len L
 have loop:∀ (j i:Nat),L.length - i=j->i<=L.length->LoopC Tryz.prog W [] (nslots Tryz.prog 10) (loopOf Tryz.prog 10 0) (S10t L i) (.exit 0) Ee:=by
  intro j
  induction j with
  | zero =>
   intro i hj hi
   have e:decide ((i:Int)<((encVs L).length:Int))=false:=by rw [hlen];exact decide_eq_false (by omega)
   clear hc
   exact loop_last (by simp) (body_of_sbodyK mixedz (b10_1 W L i) Ti_z2 [] [] Ti_z1)
  | succ j ih =>
   intro i hj hi
   obtain ⟨x,hx⟩:=getOf (l:=L) (i:=i) (by omega)
   have e:decide ((i:Int)<((encVs L).length:Int))=true:=by rw [hlen];exact decide_eq_true (by omega)
   have hget:(encVs L)[((i:Int)).toNat]?=some (encV x):=by rw [Int.toNat_natCast];exact encVs_get hx
   have hws:IntKind.i64.wrap ((i:Int)+1)=((i+1:Nat):Int):=wrap_succ (by omega)
   have h23:=mut_of_pure (by simp [cloL,encV_clo]) (equal67 W _ x x (Nat.lt_succ_self _) (okV_cnt x (hc x (List.mem_of_getElem? hx))))
   rw [eqV_true] at h23
   have nx:=ih (i+1) (by omega) (by omega)
   obtain ⟨hx1,lx⟩:=x
   clear hc ih
   exact loop_next (body_of_sbodyK mixedz (b10_0 W hx1 lx L i) (by clear nx;exact Ti_z2) [] [] (σ3:=S10t L (i+1)) (by clear nx;exact Ti_z1)) nx
 have h:=loop L.length 0 (by omega) (by omega)
 have e:(!decide (((encVs L).length:Int)=((encVs L).length:Int)))=false:=by rw [decide_eq_true rfl];rfl
 exact pure_of_mut rfl (mut_of_sfun mixedz call10 rfl (t10_1 W L) Ti_z2)
theorem heavy4 (r:RQ) (h1:okV (.mk r.vh r.vl)) (h2:okV (.mk r.oh r.ol)) (h3:okV (.mk r.fh r.fl)) (h4:okV (.mk r.gh r.gl)):∃ g:Bool,Pure Tryz.prog W 4 [reqA r] (bA g):=by
 have p1:=mut_of_pure (by simp [cloL,encV_clo,AV.clo,iA]) (parts W _ 20000 h1 (by omega) (by omega))
 have p2:=mut_of_pure (by simp [cloL,encV_clo,AV.clo,iA]) (parts W _ 20000 h2 (by omega) (by omega))
 have p3:=mut_of_pure (by simp [cloL,encV_clo,AV.clo,iA]) (parts W _ 20000 h3 (by omega) (by omega))
 have p4:=mut_of_pure (by simp [cloL,encV_clo,AV.clo,iA]) (parts W _ 20000 h4 (by omega) (by omega))
 have hl:=pure_of_mut rfl (mut_of_sfun mixedz call5 rfl (l4_0 W r _ _ _ _) ⟨p4,trivial,p3,trivial,p2,trivial,p1,trivial,trivial⟩)
 have hcl:cloL [encV (.mk r.vh r.vl),encV (.mk r.oh r.ol),encV (.mk r.fh r.fl),encV (.mk r.gh r.gl)]=true:=by simp only [cloL,encV_clo,Bool.and_self]
 exact ⟨_,pure_of_mut rfl (mut_of_sfun mixedz call4 rfl (h4_0 W r _) ⟨mut_of_pureFlat (frz2 rfl hcl) rfl (by simp only [clL,clA,lk];exact clo_cons (by simp [AV.clo,hcl]) rfl) rfl hl,⟨hcl,trivial⟩,trivial⟩)⟩
theorem large5 (o:OC) (h1:okV (.mk o.wh o.wl)) (h2:okV (.mk o.xh o.xl)):∃ g:Bool,Pure Tryz.prog W 5 [.sl 5 [encV (.mk o.wh o.wl),encV (.mk o.xh o.xl)] []] (bA g)/\(g=false->cntV (.mk o.wh o.wl)<=2 ^ 30/\cntV (.mk o.xh o.xl)<=2 ^ 30):=by
 have p1:=mut_of_pure (by simp [cloL,encV_clo,AV.clo,iA]) (parts W _ 20000 h1 (by omega) (by omega))
 have p2:=mut_of_pure (by simp [cloL,encV_clo,AV.clo,iA]) (parts W _ 20000 h2 (by omega) (by omega))
 have b1:=partsV_bd _ 20000 h1 (by omega)
 have b2:=partsV_bd _ 20000 h2 (by omega)
 have hw:IntKind.i64.wrap (IntKind.i64.wrap (0+partsV (.mk o.wh o.wl) 20000)+partsV (.mk o.xh o.xl) 20000)=partsV (.mk o.wh o.wl) 20000+partsV (.mk o.xh o.xl) 20000:=by
  rw [Int.zero_add,IntWalk.i64_in (partsV (.mk o.wh o.wl) 20000) (by omega)];exact IntWalk.i64_in _ (by omega)
 refine ⟨_,pure_of_mut rfl (mut_of_sfun mixedz call5 rfl (l2_0 W o _ _) ⟨p2,trivial,p1,trivial,trivial⟩),fun hg=>?_⟩
 rw [hw,decide_eq_false_iff_not] at hg
 have q1:=parts_cnt (.mk o.wh o.wl) 20000 (by omega)
 have q2:=parts_cnt (.mk o.xh o.xl) 20000 (by omega)
 omega
theorem spoil (N:List (List UInt8)) (L:List JV) (n:Nat) (h4:n<=4):∀ (j i:Nat) (A:List (List UInt8)) (I:List AV),n - i=j->i<=n->A.length=n->I.length=n->cloL I=true->(∀ y ∈ I,five y) →
 ∃ (A2:List (List UInt8)) (I2:List AV),A2.length=n/\I2.length=n/\cloL I2=true/\LoopC Tryz.prog W [] (nslots Tryz.prog 3) (loopOf Tryz.prog 3 0) (P3 (A.map AV.str) I N L n i) (.exit 0) (P3e (A2.map AV.str) I2 N L n):=by
 intro j
 induction j with
 | zero =>
  intro i A I hj hi hA hI hc h5
  have e:decide ((i:Int)<(n:Int))=false:=decide_eq_false (by omega)
  clear h5
  have ca:=cloL_str A
  exact ⟨A,I,hA,hI,hc,loop_last (by simp) (body_of_sbodyK mixedz (q3_1 W L (A.map AV.str) I N n i) Ti_z2 [] [] Ti_z1)⟩
 | succ j ih =>
  intro i A I hj hi hA hI hc h5
  have e:decide ((i:Int)<(n:Int))=true:=decide_eq_true (by omega)
  have hr:(0:Int)<=(i:Int)/\(i:Int)<(n:Int):=by omega
  obtain ⟨x,hx⟩:=getOf (l:=A) (i:=i) (by omega)
  obtain ⟨y,hy⟩:=getOf (l:=I) (i:=i) (by omega)
  obtain ⟨c0,c1,c2,c3,c4,rfl⟩:=h5 y (List.mem_of_getElem? hy)
  have hgx:(A.map AV.str)[0+((i:Int)).toNat]?=some (AV.str x):=by rw [Int.toNat_natCast,Nat.zero_add];exact strs_get hx
  have hgy:I[0+((i:Int)).toNat]?=some (AV.agg [c0,c1,c2,c3,c4]):=by rw [Int.toNat_natCast,Nat.zero_add];exact hy
  have hws:IntKind.i64.wrap ((i:Int)+1)=((i+1:Nat):Int):=wrap_succ (by omega)
  have hi0:0+((i:Int)).toNat=i:=by rw [Int.toNat_natCast,Nat.zero_add]
  have hc2:cloL (I.set i (num9 99))=true:=cloL_set hc rfl
  have ca:=cloL_str (A.set i [115,112,111,105,108,116])
  have ha:(A.map AV.str).set i (AV.str [115,112,111,105,108,116])=(A.set i [115,112,111,105,108,116]).map AV.str:=by rw [List.map_set]
  obtain ⟨A2,I2,a1,a2,a3,nx⟩:=ih (i+1) (A.set i [115,112,111,105,108,116]) (I.set i (num9 99)) (by omega) (by omega) (by rw [List.length_set];exact hA) (by rw [List.length_set];exact hI) hc2 (by
   intro y hy
   rcases List.mem_or_eq_of_mem_set hy with hy|rfl
   ·exact h5 y hy
   ·exact five_num 99)
  have hb:=(q3_0 W L (A.map AV.str) I N x n i c0 c1 c2 c3 c4)
  rw [hi0] at hb
  clear h5 ih
  refine ⟨A2,I2,a1,a2,a3,loop_next (body_of_sbodyK mixedz hb ?_ [] [] (σ3:=P3 ((A.set i [115,112,111,105,108,116]).map AV.str) (I.set i (num9 99)) N L n (i+1)) ?_) nx⟩
  ·clear nx hb;rw [hi0] at hgx hgy;exact Ti_z2
  ·clear nx hb;exact Ti_z1
theorem grow (N:List (List UInt8)) (L:List JV):∀ (j i n m:Nat) (A I:List AV),8 - i=j->i<=8->n<=4+i->m<=4+i->A.length=n->I.length=m->cloL A=true->cloL I=true →
 LoopC Tryz.prog W [] (nslots Tryz.prog 3) (loopOf Tryz.prog 3 1) (G3 A I N L n m i) (.exit 2) (G3e N L):=by
 intro j
 induction j with
 | zero =>
  intro i n m A I hj hi hn hm hA hI cA cI
  have e:decide ((i:Int)<8)=false:=decide_eq_false (by omega)
  exact loop_last (by simp) (body_of_sbodyK mixedz (g3_1 W L A I N n m i) Ti_z2 [] [] Ti_z1)
 | succ j ih =>
  intro i n m A I hj hi hn hm hA hI cA cI
  have e:decide ((i:Int)<8)=true:=decide_eq_true (by omega)
  have hws:IntKind.i64.wrap ((i:Int)+1)=((i+1:Nat):Int):=wrap_succ (by omega)
  have q1:n<=A.length:=by omega
  have q2:m<=I.length:=by omega
  have q3:(n+[AV.str [103,114,111,119,110]].length) * 16<=140737488355328:=by simp only [List.length_cons,List.length_nil];omega
  have q4:(m+[num9 98].length) * 80<=140737488355328:=by simp only [List.length_cons,List.length_nil];omega
  have tA:List.take n A=A:=List.take_of_length_le (by omega)
  have tI:List.take m I=I:=List.take_of_length_le (by omega)
  have cA2:cloL (List.take n A++[AV.str [103,114,111,119,110]])=true:=by rw [tA,clo_append,cA];rfl
  have cI2:cloL (List.take m I++[num9 98])=true:=by rw [tI,clo_append,cI];rfl
  have nx:=ih (i+1) (n+1) (m+1) (List.take n A++[AV.str [103,114,111,119,110]]) (List.take m I++[num9 98]) (by omega) (by omega) (by omega) (by omega) (by rw [List.length_append,tA];simp only [List.length_cons,List.length_nil];omega) (by rw [List.length_append,tI];simp only [List.length_cons,List.length_nil];omega) cA2 cI2
  exact loop_next (body_of_sbodyK mixedz (g3_0 W L A I N n m i) (by clear nx ih;exact Ti_z2) [(100003,100006),(100004,100008)] [] (σ3:=G3 (List.take n A++[AV.str [103,114,111,119,110]]) (List.take m I++[num9 98]) N L (n+1) (m+1) (i+1)) (by clear nx ih;exact Ti_z1)) nx
theorem clo_req (r:RQ):(reqA r).clo=true:=by simp [reqA,cloL,AV.clo,encVs_clo,cloL_str,iA,bA]
theorem clo_out (o:OC):(outA o).clo=true:=by simp [outA,cloL,AV.clo,encVs_clo,cloL_str,iA,bA]
theorem clo_args (r:RQ) (o:OC) (st:Int):cloL [reqA r,outA o,iA st]=true:=clo_cons (clo_req r) (clo_cons (clo_out o) rfl)
theorem told3 (r:RQ) (o:OC) (st:Int) (h1:okV (.mk r.vh r.vl)) (h2:okV (.mk r.oh r.ol)) (h3:okV (.mk r.fh r.fl)) (h4:okV (.mk r.gh r.gl)) (hw:okV (.mk o.wh o.wl)) (hx:okV (.mk o.xh o.xl)) (hN:∀ s ∈ r.gh.names,s.length<=2 ^ 30):Pure Tryz.prog W 3 [reqA r,outA o,iA st] (bA true):=by
 obtain ⟨g4,q4⟩:=heavy4 W r h1 h2 h3 h4
 have c4:MutC Tryz.prog W 4 [reqA r] [] (.ret (bA g4) []):=mut_of_pure (clo_cons (clo_req r) rfl) q4
 have c6:MutC Tryz.prog W 6 [] [] (.ret (bA true) []):=mut_of_pure rfl (live6 W)
 obtain ⟨g5,q5,hc⟩:=large5 W o hw hx
 have hcl:cloL [encV (.mk o.wh o.wl),encV (.mk o.xh o.xl)]=true:=by simp only [cloL,encV_clo,Bool.and_self]
 have c5:MutC Tryz.prog W 5 [.gs 100002 0 2] [(100002,.arr 25 5 [encV (.mk o.wh o.wl),encV (.mk o.xh o.xl)] .own)] (.ret (bA g5) [(100002,.arr 25 5 [encV (.mk o.wh o.wl),encV (.mk o.xh o.xl)] .own)]) :=
  mut_of_pureFlat (frz2 rfl hcl) rfl (by simp only [clL,clA,lk];exact clo_cons (by simp [AV.clo,hcl]) rfl) rfl q5
 have hch:cloHs [(100002,.arr 25 5 [encV (.mk o.wh o.wl),encV (.mk o.xh o.xl)] .own)]:=⟨hcl,trivial⟩
 clear h1 h2 h3 h4 hw hx q4 q5
 cases g4 with
 | true =>
  clear hN hc
  exact pure_of_mut rfl (mut_of_sfun mixedz call3 rfl (a3_0 W r o st) ⟨c6,trivial,c4,trivial,trivial⟩)
 | false =>
 cases g5 with
 | true =>
  clear hN hc
  exact pure_of_mut rfl (mut_of_sfun mixedz call3 rfl (a3b_0 W r o st) ⟨c6,trivial,c5,hch,c4,trivial,trivial⟩)
 | false =>
 obtain ⟨hcw,hcx⟩:=hc rfl
 obtain ⟨k1,k2⟩:=kinds W o
 have c11:MutC Tryz.prog W 11 [outA o] [] (.ret (iA (knd o)) []):=mut_of_pure (clo_cons (clo_out o) rfl) k1
 have c12:MutC Tryz.prog W 12 [outA o] [] (.ret (iA (knd o)) []):=mut_of_pure (clo_cons (clo_out o) rfl) k2
 have ck:(!decide (knd o=knd o))=false:=by rw [decide_eq_true rfl];rfl
 rcases told (W:=W) r o st hcx hcw hN with ⟨t7,t8⟩|⟨N,I,L,T⟩
 ·have c7:=mut_of_pure (clo_args r o st) t7
  have c8:=mut_of_pure (clo_args r o st) t8
  have cl:∀ a b:AV,Le a (.sl 1 [] [])->Le b (.sl 1 [] [])->MutC Tryz.prog W 9 [a,b] [] (.ret (bA true) []):=fun a b ha hb=>mut_le (.cons ha (.cons hb .nil)) (mut_of_pure rfl (texts9 W [] (by simp)))
  have cv:∀ a b:AV,Le a (.sl 5 [] [])->Le b (.sl 5 [] [])->MutC Tryz.prog W 10 [a,b] [] (.ret (bA true) []):=fun a b ha hb=>mut_le (.cons ha (.cons hb .nil)) (mut_of_pure rfl (values10 W [] (by simp) (fun y hy=>by cases hy)))
  have n9:=cl (.val (.slice none 0 0)) (.val (.slice none 0 0)) (.nil 1) (.nil 1)
  have n10:=cv (.val (.slice none 0 0)) (.val (.slice none 0 0)) (.nil 5) (.nil 5)
  have s9:=cl (.sl 1 [] []) (.sl 1 [] []) (.refl _) (.refl _)
  have s10:=cv (.sl 5 [] []) (.sl 5 [] []) (.refl _) (.refl _)
  have lg:=grow W [] [] 8 0 0 0 [] [] (by omega) (by omega) (by omega) (by omega) rfl rfl rfl rfl
  have hm:MatchK [] [] [(100003,1),(100004,5)] {t:=[(7,.val (.slice none 0 0)),(8,.val (.slice none 0 0)),(9,.val (.slice none 0 0)),(10,.val (.slice none 0 0)),(11,.val (.slice none 0 0)),(12,.val (.slice none 0 0)),(14,iA 0)],h:=[(100000,.box (reqA r) .own),(100001,.box (outA o) .own),(100002,.arr 25 5 [encV (.mk o.wh o.wl),encV (.mk o.xh o.xl)] .own)]} (G3 [] [] [] [] 0 0 0):=Ti_z1
  exact pure_of_mut rfl (mut_of_sfun mixedz call3 rfl (n3_1 W r o st (knd o)) ⟨s10,trivial,s9,trivial,lg,hm,ck,ck,c6,trivial,ck,c12,trivial,c11,trivial,n10,trivial,n9,trivial,c8,trivial,c7,trivial,c7,trivial,c5,hch,c4,trivial,trivial⟩)
 ·have hn:=T.n
  have hn4:=T.n4
  have hLl:L.length=N.length:=by have:=T.le.len;rw [encVs_len] at this;omega
  have c7:=T.m7
  have p7:=mut_of_pure (clo_args r o st) T.p7
  have p8:=mut_of_pure (clo_args r o st) T.p8
  have cI:=T.clo
  have cN:=cloL_str N
  have t9:=texts9 W N (by omega)
  have t10:=values10 W L (by omega) T.cnt
  have m9:MutC Tryz.prog W 9 [.sl 1 (N.map AV.str) [],.sl 1 (N.map AV.str) []] [] (.ret (bA true) []):=mut_of_pure (by simp only [cloL,AV.clo,cloL_str,Bool.and_self]) t9
  have m10:MutC Tryz.prog W 10 [.sl 5 (encVs L) [],.sl 5 (encVs L) []] [] (.ret (bA true) []):=mut_of_pure (by simp only [cloL,AV.clo,encVs_clo,Bool.and_self]) t10
  have e1:List.take N.length (List.map AV.str N)=List.map AV.str N:=List.take_of_length_le (by simp)
  have e2:List.take N.length I=I:=List.take_of_length_le (by omega)
  have o9:MutC Tryz.prog W 9 [.gs 100003 0 N.length,.sl 1 (N.map AV.str) []] [(100003,.arr 9 1 (N.map AV.str) .own)] (.ret (bA true) [(100003,.arr 9 1 (N.map AV.str) .own)]):=by
   have e:clL [(100003,.arr 9 1 (N.map AV.str) .own)] [.gs 100003 0 N.length,.sl 1 (N.map AV.str) []]=[.sl 1 (N.map AV.str) [],.sl 1 (N.map AV.str) []]:=by simp [clL,clA,lk,e1]
   exact mut_of_pureFlat (frz2 rfl cN) rfl (by rw [e];simp only [cloL,AV.clo,cloL_str,Bool.and_self]) rfl (by rw [e];exact t9)
  have o10:MutC Tryz.prog W 10 [.gs 100004 0 N.length,.sl 5 (encVs L) []] [(100004,.arr 25 5 I .own)] (.ret (bA true) [(100004,.arr 25 5 I .own)]):=by
   have e:clL [(100004,.arr 25 5 I .own)] [.gs 100004 0 N.length,.sl 5 (encVs L) []]=[.sl 5 I [],.sl 5 (encVs L) []]:=by simp [clL,clA,lk,e2,hn]
   exact mut_of_pureFlat (frz2 rfl cI) rfl (by rw [e];simp only [cloL,AV.clo,encVs_clo,cI,Bool.and_self]) rfl (by rw [e];exact pure_le (.cons (.els T.le (encVs_flat L)) (.cons (.refl _) .nil)) t10)
  obtain ⟨A2,I2,a1,a2,a3,lp⟩:=spoil W N L N.length hn4 N.length 0 N I (by omega) (by omega) rfl hn cI T.five
  have lg:=grow W N L 8 0 N.length N.length (A2.map AV.str) I2 (by omega) (by omega) (by omega) (by omega) (by rw [List.length_map];exact a1) a2 (cloL_str _) a3
  have hz:cloHs [(100003,.arr 9 1 (N.map AV.str) .own)]:=⟨cN,trivial⟩
  have hz2:cloHs [(100004,.arr 25 5 I .own)]:=⟨cI,trivial⟩
  clear hN T t9 t10
  have ca2:=cloL_str A2
  have hm1:MatchK [] [] [] {t:=[(7,.gs 100003 0 N.length),(8,.gs 100004 0 N.length),(9,.sl 1 (N.map AV.str) []),(10,.sl 5 (encVs L) []),(11,.sl 1 (N.map AV.str) []),(12,.sl 5 (encVs L) []),(14,iA 0)],h:=[(100003,.arr 9 1 (A2.map AV.str) .own),(100004,.arr 25 5 I2 .own)]} (G3 (A2.map AV.str) I2 N L N.length N.length 0):=Ti_z1
  have hm0:MatchK [] [] [] {t:=[(7,.gs 100003 0 N.length),(8,.gs 100004 0 N.length),(9,.sl 1 (N.map AV.str) []),(10,.sl 5 (encVs L) []),(11,.sl 1 (N.map AV.str) []),(12,.sl 5 (encVs L) []),(13,iA 0)],h:=[(100000,.box (reqA r) .own),(100001,.box (outA o) .own),(100002,.arr 25 5 [encV (.mk o.wh o.wl),encV (.mk o.xh o.xl)] .own),(100003,.arr 9 1 (N.map AV.str) .own),(100004,.arr 25 5 I .own)]} (P3 (N.map AV.str) I N L N.length 0):=Ti_z1
  exact pure_of_mut rfl (mut_of_sfun mixedz call3 rfl (p3_1 W r o L (N.map AV.str) I N st (knd o) N.length (A2.map AV.str) I2) ⟨m10,trivial,m9,trivial,lg,hm1,lp,hm0,ck,ck,c6,trivial,ck,c12,trivial,c11,trivial,o10,hz2,o9,hz,p8,trivial,p7,trivial,c7,trivial,c5,hch,c4,trivial,trivial⟩)
end
end Go.Ac

