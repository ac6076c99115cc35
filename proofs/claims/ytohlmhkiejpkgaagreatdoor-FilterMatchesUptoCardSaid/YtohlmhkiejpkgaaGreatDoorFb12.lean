/- What is proved: contracts of functions of this translation, walked; their plain meaning. No condition beyond those that each theorem names. -/
import Derived.Test.YtohlmhkiejpkgaaGreatDoorMa6
import Derived.Test.YtohlmhkiejpkgaaGreatDoorFb11
set_option linter.all false
namespace Go.Ac
open Go Go.Proofs
set_option maxRecDepth 10000
set_option maxHeartbeats 1000000
theorem Fb12_z1 {cs} (h:Holds cs:=by simp only [Holds,and_true]<;>and_intros<;>first|exact zd):Holds cs:=h
def rdH (t:Int):List (Nat×GE):=[(100000,.box (iA t) .own)]
theorem m169_0 (W:World) (h:JH) (l:List JV) (d t:Int):sF W {lp:=true,tl:=[]} 169 [.gp 100000 0,eV h l,iA d] (rdH t) 100001 [ee] []=.ok (.ret (.fn (Fn.func 170) [] [.gp 100001 0]) [(100000,gB (iA t)),(100001,gB (eV h l))],[ee],[]):=kr
theorem m172_0 (W:World) (h:JH) (l:List JV) (d t:Int):sF W {lp:=true,tl:=[]} 172 [.gp 100000 0,eV h l,iA d] (rdH t) 100001 [ee] []=.ok (.ret (.fn (Fn.func 173) [] [.gp 100001 0]) [(100000,gB (iA t)),(100001,gB (eV h l))],[ee],[]):=kr
theorem m204_0 (W:World) (h:JH) (l:List JV) (d t:Int) (c:AV):sF W {lp:=true,tl:=[]} 204 [.gp 100000 0,eV h l,iA d,.ip c 0] (rdH t) 100001 [ee] []=.ok (.ret (.fn (Fn.func 205) [] [.gp 100001 0,c.ip 0]) [(100000,gB (iA t)),(100001,gB (eV h l))],[ee],[]):=kr
theorem m208_1 (W:World) (h:JH) (l:List JV) (d t:Int) (w:Bool):sF W {lp:=true,tl:=[]} 208 [.gp 100000 0,eV h l,iA d,.ip (bA w) 0] (rdH t) 100001 [aE 1,bf,ee] []=.ok (.ret (.fn (Fn.func 210) [] [.gp 100001 0,(bA w).ip 0]) [(100000,gB (iA t)),(100001,gB (eV h l))],[ee],[(!decide (h.kind=5))=false]):=kr
theorem m180_1 (W:World) (h:JH) (l:List JV) (d t:Int):sF W {lp:=true,tl:=[]} 180 [.gp 100000 0,eV h l,iA d] (rdH t) 100001 [aE 1,bf,ee] []=.ok (.ret (.fn (Fn.func 212) [] [.gp 100001 0]) [(100000,gB (iA t)),(100001,gB (eV h l))],[ee],[(!decide (h.kind=5))=false]):=kr
theorem m181_0 (W:World) (h:JH) (l:List JV) (d t:Int):sF W {lp:=true,tl:=[]} 181 [.gp 100000 0,eV h l,iA d] (rdH t) 100001 [bt,bt,bt,bt,ee] []=.ok (.ret (.fn (Fn.func 214) [] [.gp 100001 0]) [(100000,gB (iA t)),(100001,gB (eV h l))],[aE 9999998],d4 (decide (h.kind=2)=true) []):=kr
theorem m181_2 (W:World) (h:JH) (l:List JV) (d t:Int):sF W {lp:=true,tl:=[]} 181 [.gp 100000 0,eV h l,iA d] (rdH t) 100001 [bf,bf,bf,bf,aE 1,bf,ee] []=.ok (.ret (.fn (Fn.func 214) [] [.gp 100001 0]) [(100000,gB (iA t)),(100001,gB (eV h l))],[ee],((!decide (h.kind=1))=false)::(d4 (decide (h.kind=2)=false) [])):=kr
theorem m183_1 (W:World) (h:JH) (l:List JV) (d t:Int):sF W {lp:=true,tl:=[]} 183 [.gp 100000 0,eV h l,iA d] (rdH t) 100001 [bt,bt,bt,bt,aE 1,bf,ee] []=.ok (.ret (.fn (Fn.func 218) [] [.gp 100001 0]) [(100000,gB (iA t)),(100001,gB (eV h l))],[ee],((!decide (0<=h.int))=false)::(d4 (decide (h.kind=3)=true) [])):=kr
theorem m184_1 (W:World) (h:JH) (l:List JV) (d t:Int) (h3:JH) (l3:List JV) (h4:JH) (l4:List JV):sF W {lp:=true,tl:=[]} 184 [.gp 100000 0,eV h l,iA d] (rdH t) 100001 [bt,bt,bt,bt,bt,bt,bt,bt,aE 1,oS (eV h3 l3),bt,bt,bt,bt,bt,bt,bt,aE 1,oS (eV h4 l4),bt,bt,bt,bt,bt,bt,bt,aE 1,oS (eV h3 l3),bt,bt,bt,bt,aE 1,bf,ee] []=.ok (.ret (.fn (Fn.func 220) [] [.gp 100001 0]) [(100000,gB (iA t)),(100001,gB (eV h l))],[ee],((!!decide (h3.int=0))=false)::(d4 (decide (h4.kind=3)=true) (((encVs l)[0]?=some (eV h3 l3))::(d3 (decide (h4.kind=3)=true) (d4 (decide (h3.kind=3)=true) (((encVs l)[1]?=some (eV h4 l4))::(d3 (decide (h3.kind=3)=true) (d4 (decide ((↑(encVs l).length:Int)=2)=true) (((encVs l)[0]?=some (eV h3 l3))::(d3 (decide ((↑(encVs l).length:Int)=2)=true) ((decide (h.kind=5)=true)::(d4 (decide (h.kind=5)=true) [])))))))))))):=kr
theorem m182_1 (W:World) (h:JH) (l:List JV) (d t:Int) (b:Bool) (T:List AV):sF W {lp:=true,tl:=[215]} 182 [.gp 100000 0,eV h l,iA d] (rdH t) 100001 [ee,cR (.tup [sL 1 T,bA b]) [],bt,bt,aE 1,bf,ee] []=.ok (.ret (.fn (Fn.func 216) [] [.gp 100002 0]) [(100000,gB (iA t)),(100002,gB (sL 1 T))],[ee],((!b)=false)::(d2 (decide (h.kind=4)=true) [MZ W 215 [.str h.3] [] (.ret (.tup [sL 1 T,bA b]) [])])):=kr
theorem m185_0 (W:World) (h:JH) (l:List JV) (d t t2:Int) (T:List AV):sF W {lp:=true,tl:=[111]} 185 [.gp 100000 0,eV h l,iA d] (rdH t) 100001 [ee,cR (sL 7 T) (rdH t2),ee] []=.ok (.ret (.fn (Fn.func 222) [] [.gp 100002 0]) [(100000,gB (iA t2)),(100002,gB (sL 7 T))],[ee],[MZ W 111 [.gp 100000 0,eV h l,iA (IntKind.i64.wrap (d+1))] [(100000,gB (iA t))] (.ret (sL 7 T) [(100000,gB (iA t2))])]):=kr
theorem m186_0 (W:World) (h:JH) (l:List JV) (d t t2:Int) (b b2:Bool) (T:List AV) (s:List UInt8):sF W {lp:=true,tl:=[110,107,111,63]} 186 [.gp 100000 0,eV h l,iA d] (rdH t) 100001 [ee,cR (bA b) [],bt,bt,bt,aE 1,oS (.str s),bt,bt,ee,cR (bA b2) [],bt,bt,bt,ee,cR (sL 7 T) (rdH t2),ee] []=.ok (.ret (.fn (Fn.func 227) [] [.gp 100002 0]) [(100000,gB (iA t2)),(100002,gB (.fn (Fn.func 225) [] [.gp 100003 0])),(100003,gB (sL 7 T))],[ee],[MZ W 111 [.gp 100000 0,eV h l,iA (IntKind.i64.wrap (d+1))] [(100000,gB (iA t))] (.ret (sL 7 T) [(100000,gB (iA t2))]),(!b2)=true,b=true,b=true,MZ W 107 [.str s] [] (.ret (bA b2) []),b=true,b=true,(List.map AV.str h.names)[0]?=some (AV.str s),b=true,b=true,b=true,MZ W 110 [eV h l] [] (.ret (bA b) [])]):=kr
theorem m186_1 (W:World) (h:JH) (l:List JV) (d t t2:Int) (b b2:Bool) (T:List AV) (s:List UInt8):sF W {lp:=true,tl:=[110,107,111,63]} 186 [.gp 100000 0,eV h l,iA d] (rdH t) 100001 [ee,cR (bA b) [],bt,bt,bt,aE 1,oS (.str s),bt,bt,ee,cR (bA b2) [],bt,bt,bf,ee,cR (.agg [sL 1 T]) (rdH t2),ee] []=.ok (.ret (.fn (Fn.func 227) [] [.gp 100002 0]) [(100000,gB (iA t2)),(100002,gB (.fn (Fn.func 226) [] [.gp 100003 0])),(100003,gB (.agg [sL 1 T]))],[ee],[MZ W 63 [.gp 100000 0,eV h l,iA (IntKind.i64.wrap (d+1))] [(100000,gB (iA t))] (.ret (.agg [sL 1 T]) [(100000,gB (iA t2))]),(!b2)=false,b=true,b=true,MZ W 107 [.str s] [] (.ret (bA b2) []),b=true,b=true,(List.map AV.str h.names)[0]?=some (AV.str s),b=true,b=true,b=true,MZ W 110 [eV h l] [] (.ret (bA b) [])]):=kr
theorem m186_2 (W:World) (h:JH) (l:List JV) (d t t2:Int) (b:Bool) (T:List AV):sF W {lp:=true,tl:=[110,107,111,63]} 186 [.gp 100000 0,eV h l,iA d] (rdH t) 100001 [ee,cR (bA b) [],bf,bf,bf,bf,bf,bf,bf,ee,cR (.agg [sL 1 T]) (rdH t2),ee] []=.ok (.ret (.fn (Fn.func 227) [] [.gp 100002 0]) [(100000,gB (iA t2)),(100002,gB (.fn (Fn.func 226) [] [.gp 100003 0])),(100003,gB (.agg [sL 1 T]))],[ee],[MZ W 63 [.gp 100000 0,eV h l,iA (IntKind.i64.wrap (d+1))] [(100000,gB (iA t))] (.ret (.agg [sL 1 T]) [(100000,gB (iA t2))]),b=false,b=false,b=false,b=false,b=false,b=false,b=false,MZ W 110 [eV h l] [] (.ret (bA b) [])]):=kr
theorem p110_0 (W:World) (h:JH) (l:List JV) (s:List UInt8) (x:UInt8):sF W {} 110 [eV h l] [] 100000 [bt,bt,bt,bt,bt,bt,bt,bt,bt,bt,bt,bt,bt,aE 1,oS (.str s),bt,bt,aE 1,bt,bt,aE 1,Ans.byt (some x),bt,bt,bt,ee] []=.ok (.ret (bA (decide ((x.toNat:Int)=36))) [],[ee],(decide (0<(↑(encVs l).length:Int))=true)::(d2 (decide (0<(s.length:Int))=true) ((s[0]?=some x)::(d2 (decide (0<(s.length:Int))=true) (d2 (decide (0<(↑(encVs l).length:Int))=true) (((List.map AV.str h.names)[0]?=some (AV.str s))::(d3 (decide (0<(↑(encVs l).length:Int))=true) ((decide (0<(↑(List.map AV.str h.names).length:Int))=true)::(d4 (decide (0<(↑(List.map AV.str h.names).length:Int))=true) ((decide (h.kind=6)=true)::(d4 (decide (h.kind=6)=true) []))))))))))):=kr
theorem p110_1 (W:World) (h:JH) (l:List JV) (s:List UInt8):sF W {} 110 [eV h l] [] 100000 [bt,bt,bt,bt,bt,bt,bt,bt,bt,bt,bt,bt,bt,aE 1,oS (.str s),bt,bt,aE 1,bf,bf,bf,bf,bt,ee] []=.ok (.ret (bA false) [],[ee],(decide (0<(↑(encVs l).length:Int))=true)::(d4 (decide (0<(s.length:Int))=false) (d2 (decide (0<(↑(encVs l).length:Int))=true) (((List.map AV.str h.names)[0]?=some (AV.str s))::(d3 (decide (0<(↑(encVs l).length:Int))=true) ((decide (0<(↑(List.map AV.str h.names).length:Int))=true)::(d4 (decide (0<(↑(List.map AV.str h.names).length:Int))=true) ((decide (h.kind=6)=true)::(d4 (decide (h.kind=6)=true) []))))))))):=kr
theorem p110_2 (W:World) (h:JH) (l:List JV):sF W {} 110 [eV h l] [] 100000 [bt,bt,bt,bt,bt,bt,bt,bt,bt,bt,bf,bf,bf,bf,bf,bf,ee] []=.ok (.ret (bA false) [],[ee],d6 (decide (0<(↑(encVs l).length:Int))=false) ((decide (0<(↑(List.map AV.str h.names).length:Int))=true)::(d4 (decide (0<(↑(List.map AV.str h.names).length:Int))=true) ((decide (h.kind=6)=true)::(d4 (decide (h.kind=6)=true) []))))):=kr
theorem p110_3 (W:World) (h:JH) (l:List JV):sF W {} 110 [eV h l] [] 100000 [bt,bt,bt,bt,bt,bf,bf,bf,bf,bf,ee] []=.ok (.ret (bA false) [],[aE 9999994],(decide (0<(↑(List.map AV.str h.names).length:Int))=false)::(d4 (decide (0<(↑(List.map AV.str h.names).length:Int))=false) ((decide (h.kind=6)=true)::(d4 (decide (h.kind=6)=true) [])))):=kr
theorem p110_4 (W:World) (h:JH) (l:List JV):sF W {} 110 [eV h l] [] 100000 [bf,bf,bf,bf,bf,ee] []=.ok (.ret (bA false) [],[aE 9999989],(decide (h.kind=6)=false)::(d4 (decide (h.kind=6)=false) [])):=kr
theorem p107_0 (W:World) (s:List UInt8):sF W {} 107 [.str s] [] 100000 [bt,bt,bt,ee] []=.ok (.ret (bA true) [],[aE 9999997],d3 (decide (s=[36,97,110,100])=true) []):=kr
theorem p107_1 (W:World) (s:List UInt8):sF W {} 107 [.str s] [] 100000 [bf,bf,bf,bt,bt,bt,ee] []=.ok (.ret (bA true) [],[ee],d3 (decide (s=[36,111,114])=true) (d3 (decide (s=[36,97,110,100])=false) [])):=kr
theorem p107_2 (W:World) (s:List UInt8):sF W {} 107 [.str s] [] 100000 [bf,bf,bf,bf,bf,bf,ee] []=.ok (.ret (bA (decide (s=[36,110,111,114]))) [],[ee],d3 (decide (s=[36,111,114])=false) (d3 (decide (s=[36,97,110,100])=false) [])):=kr
theorem p109_0 (W:World) (s:List UInt8) (x:UInt8):sF W {} 109 [.str s] [] 100000 [bt,bt,aE 1,Ans.byt (some x),bt,bt,ee] []=.ok (.ret (bA (decide ((x.toNat:Int)=36))) [],[ee],d2 (decide (0<(s.length:Int))=true) ((s[0]?=some x)::(d2 (decide (0<(s.length:Int))=true) []))):=kr
theorem p109_1 (W:World) (s:List UInt8):sF W {} 109 [.str s] [] 100000 [bf,bf,bf,bf,ee] []=.ok (.ret (bA false) [],[ee],d4 (decide (0<(s.length:Int))=false) []):=kr
theorem p215_null_0 (W:World):sF W {} 215 [.str [110,117,108,108]] [] 100000 [ee] []=.ok (.ret (.tup [.gs 100001 0 1,bA true]) [(100001,.arr 3 1 [iA 0] .own)],[ee],[]):=kr
theorem p215_bool_0 (W:World):sF W {} 215 [.str [98,111,111,108]] [] 100000 [ee] []=.ok (.ret (.tup [.gs 100002 0 2,bA true]) [(100002,.arr 3 1 [iA 1,iA 2] .own)],[ee],[]):=kr
theorem p215_int_0 (W:World):sF W {} 215 [.str [105,110,116]] [] 100000 [ee] []=.ok (.ret (.tup [.gs 100003 0 1,bA true]) [(100003,.arr 3 1 [iA 3] .own)],[ee],[]):=kr
theorem p215_string_0 (W:World):sF W {} 215 [.str [115,116,114,105,110,103]] [] 100000 [ee] []=.ok (.ret (.tup [.gs 100004 0 1,bA true]) [(100004,.arr 3 1 [iA 4] .own)],[ee],[]):=kr
theorem p215_array_0 (W:World):sF W {} 215 [.str [97,114,114,97,121]] [] 100000 [ee] []=.ok (.ret (.tup [.gs 100005 0 1,bA true]) [(100005,.arr 3 1 [iA 5] .own)],[ee],[]):=kr
theorem p215_object_0 (W:World):sF W {} 215 [.str [111,98,106,101,99,116]] [] 100000 [ee] []=.ok (.ret (.tup [.gs 100006 0 1,bA true]) [(100006,.arr 3 1 [iA 6] .own)],[ee],[]):=kr
theorem p148_0 (W:World):sF W {} 148 [] [] 100002 [ee] []=.ok (.ret (.mp 100002) [(100002,GE.map [(.str [36,101,113],.agg [.val (Value.func (Fn.func 169) #[] #[])]),(.str [36,110,101],.agg [.val (Value.func (Fn.func 172) #[] #[])]),(.str [36,103,116],.agg [.fn (Fn.func 204) [] [.gp 100003 0]]),(.str [36,103,116,101],.agg [.fn (Fn.func 204) [] [.gp 100004 0]]),(.str [36,108,116],.agg [.fn (Fn.func 204) [] [.gp 100005 0]]),(.str [36,108,116,101],.agg [.fn (Fn.func 204) [] [.gp 100006 0]]),(.str [36,105,110],.agg [.fn (Fn.func 208) [] [.gp 100007 0]]),(.str [36,110,105,110],.agg [.fn (Fn.func 208) [] [.gp 100008 0]]),(.str [36,97,108,108],.agg [.val (Value.func (Fn.func 180) #[] #[])]),(.str [36,101,120,105,115,116,115],.agg [.val (Value.func (Fn.func 181) #[] #[])]),(.str [36,116,121,112,101],.agg [.val (Value.func (Fn.func 182) #[] #[])]),(.str [36,115,105,122,101],.agg [.val (Value.func (Fn.func 183) #[] #[])]),(.str [36,109,111,100],.agg [.val (Value.func (Fn.func 184) #[] #[])]),(.str [36,110,111,116],.agg [.val (Value.func (Fn.func 185) #[] #[])]),(.str [36,101,108,101,109,77,97,116,99,104],.agg [.val (Value.func (Fn.func 186) #[] #[])])] .own),(100003,gB (.val (Value.func (Fn.func 175) #[] #[]))),(100004,gB (.val (Value.func (Fn.func 176) #[] #[]))),(100005,gB (.val (Value.func (Fn.func 177) #[] #[]))),(100006,gB (.val (Value.func (Fn.func 178) #[] #[]))),(100007,gB (bA true)),(100008,gB (bA false))],[aE 9999994],[]):=kr
theorem call169:callable Tryz.prog 169=true:=kr
theorem call172:callable Tryz.prog 172=true:=kr
theorem call204:callable Tryz.prog 204=true:=kr
theorem call208:callable Tryz.prog 208=true:=kr
theorem call180:callable Tryz.prog 180=true:=kr
theorem call181:callable Tryz.prog 181=true:=kr
theorem call182:callable Tryz.prog 182=true:=kr
theorem call183:callable Tryz.prog 183=true:=kr
theorem call184:callable Tryz.prog 184=true:=kr
theorem call185:callable Tryz.prog 185=true:=kr
theorem call186:callable Tryz.prog 186=true:=kr
theorem call107:callable Tryz.prog 107=true:=kr
theorem call109:callable Tryz.prog 109=true:=kr
theorem call110:callable Tryz.prog 110=true:=kr
theorem call215:callable Tryz.prog 215=true:=kr
theorem call148:callable Tryz.prog 148=true:=kr
def opsM:List (AV×AV):=[(.str [36,101,113],.agg [.val (.func (.func 169) #[] #[])]),(.str [36,110,101],.agg [.val (.func (.func 172) #[] #[])]),(.str [36,103,116],.agg [.fn (.func 204) [] [.ip (.val (.func (.func 175) #[] #[])) 0]]),(.str [36,103,116,101],.agg [.fn (.func 204) [] [.ip (.val (.func (.func 176) #[] #[])) 0]]),(.str [36,108,116],.agg [.fn (.func 204) [] [.ip (.val (.func (.func 177) #[] #[])) 0]]),(.str [36,108,116,101],.agg [.fn (.func 204) [] [.ip (.val (.func (.func 178) #[] #[])) 0]]),(.str [36,105,110],.agg [.fn (.func 208) [] [.ip (bA true) 0]]),(.str [36,110,105,110],.agg [.fn (.func 208) [] [.ip (bA false) 0]]),(.str [36,97,108,108],.agg [.val (.func (.func 180) #[] #[])]),(.str [36,101,120,105,115,116,115],.agg [.val (.func (.func 181) #[] #[])]),(.str [36,116,121,112,101],.agg [.val (.func (.func 182) #[] #[])]),(.str [36,115,105,122,101],.agg [.val (.func (.func 183) #[] #[])]),(.str [36,109,111,100],.agg [.val (.func (.func 184) #[] #[])]),(.str [36,110,111,116],.agg [.val (.func (.func 185) #[] #[])]),(.str [36,101,108,101,109,77,97,116,99,104],.agg [.val (.func (.func 186) #[] #[])])]
theorem ops148 (W:World):MutC Tryz.prog W 148 [] [] (.ret (.mp 100002) [(100002,.map opsM .own)]):=by
 have h1:=mut_frz [(100003,.box (.val (.func (.func 175) #[] #[])) .own),(100004,.box (.val (.func (.func 176) #[] #[])) .own),(100005,.box (.val (.func (.func 177) #[] #[])) .own),(100006,.box (.val (.func (.func 178) #[] #[])) .own),(100007,.box (bA true) .own),(100008,.box (bA false) .own)] (mut_of_sfun mixedz call148 rfl (p148_0 W) trivial) (by intro p hp;simp only [List.mem_cons,List.not_mem_nil,or_false] at hp;rcases hp with rfl|rfl|rfl|rfl|rfl|rfl<;>exact ⟨rfl,rfl⟩)
 have h2:=mut_clM [(100003,.box (.val (.func (.func 175) #[] #[])) .own),(100004,.box (.val (.func (.func 176) #[] #[])) .own),(100005,.box (.val (.func (.func 177) #[] #[])) .own),(100006,.box (.val (.func (.func 178) #[] #[])) .own),(100007,.box (bA true) .own),(100008,.box (bA false) .own)] h1 (by intro p hp;simp only [List.mem_cons,List.not_mem_nil,or_false] at hp;rcases hp with rfl|rfl|rfl|rfl|rfl|rfl<;>exact ⟨rfl,rfl⟩)
 exact mut_subK (r2:=.mp 100002) h2 (pruneK_ok (ks:=[0]) (by kernel_rfl))
theorem frz2 {k:Nat} {g:GE} {h1:List (Nat×GE)} (h:hg h1 k=some g) (hf:Frzable g):∀ p ∈ [(k,g)],hg h1 p.1=some p.2/\Frzable p.2:=by
 intro p hp;simp only [List.mem_singleton] at hp;subst hp;exact ⟨h,hf⟩
theorem first_mk (h:JH) (l:List JV):firstS (.mk h l)=if h.kind=6 then (match h.names.zip l with|[]=>[]|p::_=>p.1) else []:=rfl
theorem test_mk (h:JH) (l:List JV) (e:isTestB (.mk h l)=true):h.kind=6/\h.names[0]?=some (firstS (.mk h l))/\0<l.length:=by
 unfold isTestB at e
 rw [first_mk] at e ⊢
 by_cases k:h.kind=6
 ·rw [if_pos k] at e ⊢
  obtain ⟨k1,i1,t1,n1⟩:=h
  cases n1 with
  | nil=>simp [dollarB] at e
  | cons a r =>
   cases l with
   | nil=>simp [dollarB] at e
   | cons b l=>exact ⟨k,by simp,by simp⟩
 ·rw [if_neg k] at e;simp [dollarB] at e
section
variable (W:World)
theorem logical107 (s:List UInt8):Pure Tryz.prog W 107 [.str s] (bA (joinsB s)):=by
 by_cases e1:s=sAnd
 ·have e1':s=[36,97,110,100]:=e1
  exact goB (bA_inj (by simp [joinsB,e1])) rfl (mut_of_sfun mixedz call107 rfl (p107_0 W s) Fb12_z1)
 have e1':¬ s=[36,97,110,100]:=e1
 by_cases e2:s=sOr
 ·have e2':s=[36,111,114]:=e2
  exact goB (bA_inj (by simp [joinsB,e2])) rfl (mut_of_sfun mixedz call107 rfl (p107_1 W s) Fb12_z1)
 have e2':¬ s=[36,111,114]:=e2
 refine goB (bA_inj ?_) rfl (mut_of_sfun mixedz call107 rfl (p107_2 W s) Fb12_z1)
 rw [joinsB,decide_eq_false e1,decide_eq_false e2];rfl
theorem dollar109 (s:List UInt8):Pure Tryz.prog W 109 [.str s] (bA (dollarB s)):=by
 cases s with
 | nil=>exact pure_of_mut rfl (mut_of_sfun mixedz call109 rfl (p109_1 W []) Fb12_z1)
 | cons c s =>
  have hget:(c::s)[0]?=some c:=rfl
  refine goB (bA_inj ?_) rfl (mut_of_sfun mixedz call109 rfl (p109_0 W (c::s) c) Fb12_z1)
  rw [dollarB,Bool.eq_iff_iff,decide_eq_true_eq,decide_eq_true_eq,u8_eq c 36 36 rfl];simp
theorem isTest110 (v:JV):Pure Tryz.prog W 110 [encV v] (bA (isTestB v)):=by
 obtain ⟨h,l⟩:=v
 unfold isTestB
 rw [first_mk]
 by_cases k:h.kind=6
 case neg=>rw [if_neg k];exact pure_of_mut rfl (mut_of_sfun mixedz call110 rfl (p110_4 W h l) Fb12_z1)
 rw [if_pos k]
 obtain ⟨k1,i1,t1,n1⟩:=h
 cases n1 with
 | nil=>exact pure_of_mut rfl (mut_of_sfun mixedz call110 rfl (p110_3 W ⟨k1,i1,t1,[]⟩ l) Fb12_z1)
 | cons a r =>
  cases l with
  | nil=>exact pure_of_mut rfl (mut_of_sfun mixedz call110 rfl (p110_2 W ⟨k1,i1,t1,a::r⟩ []) Fb12_z1)
  | cons b l =>
   have hget:(List.map AV.str (a::r))[0]?=some (AV.str a):=rfl
   cases a with
   | nil=>exact pure_of_mut rfl (mut_of_sfun mixedz call110 rfl (p110_1 W ⟨k1,i1,t1,[]::r⟩ (b::l) []) Fb12_z1)
   | cons c s =>
    have hget2:(c::s)[0]?=some c:=rfl
    refine goB (bA_inj ?_) rfl (mut_of_sfun mixedz call110 rfl (p110_0 W ⟨k1,i1,t1,(c::s)::r⟩ (b::l) (c::s) c) Fb12_z1)
    simp only [List.zip_cons_cons]
    rw [dollarB,Bool.eq_iff_iff,decide_eq_true_eq,decide_eq_true_eq,u8_eq c 36 36 rfl];simp
theorem types215 {s:List UInt8} (h:0<=typeN s):Pure Tryz.prog W 215 [.str s] (.tup [.sl 1 (kindsA s) [],bA true]):=by
 rcases type_cases h with rfl|rfl|rfl|rfl|rfl|rfl
 ·exact pure_frz [(100001,.arr 3 1 [iA 0] .own)] (mut_of_sfun mixedz call215 rfl (p215_null_0 W) trivial) (frz2 rfl rfl) rfl rfl
 ·exact pure_frz [(100002,.arr 3 1 [iA 1,iA 2] .own)] (mut_of_sfun mixedz call215 rfl (p215_bool_0 W) trivial) (frz2 rfl rfl) rfl rfl
 ·exact pure_frz [(100003,.arr 3 1 [iA 3] .own)] (mut_of_sfun mixedz call215 rfl (p215_int_0 W) trivial) (frz2 rfl rfl) rfl rfl
 ·exact pure_frz [(100004,.arr 3 1 [iA 4] .own)] (mut_of_sfun mixedz call215 rfl (p215_string_0 W) trivial) (frz2 rfl rfl) rfl rfl
 ·exact pure_frz [(100005,.arr 3 1 [iA 5] .own)] (mut_of_sfun mixedz call215 rfl (p215_array_0 W) trivial) (frz2 rfl rfl) rfl rfl
 ·exact pure_frz [(100006,.arr 3 1 [iA 6] .own)] (mut_of_sfun mixedz call215 rfl (p215_object_0 W) trivial) (frz2 rfl rfl) rfl rfl
section
variable (x:JV) (d t:Int)
abbrev MkC (f:FuncId) (ex:List AV) (r:AV) (t':Int):Prop:=MutC Tryz.prog W f ([.gp 100000 0,encV x,iA d]++ex) (rdH t) (.ret r (rdH t'))
theorem mk_169:MkC W x d t 169 [] (.fn (.func 170) [] [.ip (encV x) 0]) t:=by
 obtain ⟨h,l⟩:=x
 exact mut_frzD [(100001,.box (encV (.mk h l)) .own)] (mut_of_sfun mixedz call169 rfl (m169_0 W h l d t) trivial) (frz2 rfl (encV_clo _)) rfl (by kernel_rfl)
theorem mk_172:MkC W x d t 172 [] (.fn (.func 173) [] [.ip (encV x) 0]) t:=by
 obtain ⟨h,l⟩:=x
 exact mut_frzD [(100001,.box (encV (.mk h l)) .own)] (mut_of_sfun mixedz call172 rfl (m172_0 W h l d t) trivial) (frz2 rfl (encV_clo _)) rfl (by kernel_rfl)
theorem mk_204 (c:AV):MkC W x d t 204 [.ip c 0] (.fn (.func 205) [] [.ip (encV x) 0,.ip c 0]) t:=by
 obtain ⟨h,l⟩:=x
 exact mut_frzD [(100001,.box (encV (.mk h l)) .own)] (mut_of_sfun mixedz call204 rfl (m204_0 W h l d t c) trivial) (frz2 rfl (encV_clo _)) rfl (by kernel_rfl)
theorem mk_208 (w:Bool) (hk:x.kind=5):MkC W x d t 208 [.ip (bA w) 0] (.fn (.func 210) [] [.ip (encV x) 0,.ip (bA w) 0]) t:=by
 obtain ⟨h,l⟩:=x
 have k5:h.kind=5:=hk
 have hb1:(!decide (h.kind=5))=false:=by rw [decide_eq_true k5];rfl
 exact mut_frzD [(100001,.box (encV (.mk h l)) .own)] (mut_of_sfun mixedz call208 rfl (m208_1 W h l d t w) Fb12_z1) (frz2 rfl (encV_clo _)) rfl (by kernel_rfl)
theorem mk_180 (hk:x.kind=5):MkC W x d t 180 [] (.fn (.func 212) [] [.ip (encV x) 0]) t:=by
 obtain ⟨h,l⟩:=x
 have k5:h.kind=5:=hk
 have hb1:(!decide (h.kind=5))=false:=by rw [decide_eq_true k5];rfl
 exact mut_frzD [(100001,.box (encV (.mk h l)) .own)] (mut_of_sfun mixedz call180 rfl (m180_1 W h l d t) Fb12_z1) (frz2 rfl (encV_clo _)) rfl (by kernel_rfl)
theorem mk_181 (hk:x.kind=1\/x.kind=2):MkC W x d t 181 [] (.fn (.func 214) [] [.ip (encV x) 0]) t:=by
 obtain ⟨h,l⟩:=x
 by_cases k2:h.kind=2
 ·exact mut_frzD [(100001,.box (encV (.mk h l)) .own)] (mut_of_sfun mixedz call181 rfl (m181_0 W h l d t) Fb12_z1) (frz2 rfl (encV_clo _)) rfl (by kernel_rfl)
 ·have k1:h.kind=1:=by rcases hk with hk|hk;exact hk;exact absurd hk k2
  have hb1:(!decide (h.kind=1))=false:=by rw [decide_eq_true k1];rfl
  exact mut_frzD [(100001,.box (encV (.mk h l)) .own)] (mut_of_sfun mixedz call181 rfl (m181_2 W h l d t) Fb12_z1) (frz2 rfl (encV_clo _)) rfl (by kernel_rfl)
theorem mk_183 (hk:x.kind=3) (hi:0<=x.int):MkC W x d t 183 [] (.fn (.func 218) [] [.ip (encV x) 0]) t:=by
 obtain ⟨h,l⟩:=x
 have k3:h.kind=3:=hk
 have i0:0<=h.int:=hi
 have hb1:(!decide (0<=h.int))=false:=by rw [decide_eq_true i0];rfl
 exact mut_frzD [(100001,.box (encV (.mk h l)) .own)] (mut_of_sfun mixedz call183 rfl (m183_1 W h l d t) Fb12_z1) (frz2 rfl (encV_clo _)) rfl (by kernel_rfl)
theorem mk_184 (a b:JV) (hk:x.kind=5) (hi:x.items=[a,b]) (ha:a.kind=3) (hb:b.kind=3) (h0:a.int ≠ 0):MkC W x d t 184 [] (.fn (.func 220) [] [.ip (encV x) 0]) t:=by
 obtain ⟨h,l⟩:=x
 obtain ⟨h3,l3⟩:=a
 obtain ⟨h4,l4⟩:=b
 simp only [JV.items] at hi
 subst hi
 have k5:h.kind=5:=hk
 have k3:h3.kind=3:=ha
 have k4:h4.kind=3:=hb
 have z0:¬ h3.int=0:=h0
 have hb1:(!!decide (h3.int=0))=false:=by rw [decide_eq_false z0];rfl
 have hget:(encVs [JV.mk h3 l3,JV.mk h4 l4])[0]?=some (encV (.mk h3 l3)):=rfl
 have hget2:(encVs [JV.mk h3 l3,JV.mk h4 l4])[1]?=some (encV (.mk h4 l4)):=rfl
 have hb2:decide (((encVs [JV.mk h3 l3,JV.mk h4 l4]).length:Int)=2)=true:=rfl
 exact mut_frzD [(100001,.box (encV (.mk h [JV.mk h3 l3,JV.mk h4 l4])) .own)] (mut_of_sfun mixedz call184 rfl (m184_1 W h [JV.mk h3 l3,JV.mk h4 l4] d t h3 l3 h4 l4) Fb12_z1) (frz2 rfl (encV_clo _)) rfl (by kernel_rfl)
theorem mk_182 (hk:x.kind=4) (ht:0<=typeN x.text):MkC W x d t 182 [] (.fn (.func 216) [] [.ip (.sl 1 (kindsA x.text) []) 0]) t:=by
 have hc:=mut_of_pure (by rfl) (types215 W ht)
 obtain ⟨h,l⟩:=x
 have k4:h.kind=4:=hk
 have hb1:(!true)=false:=rfl
 exact mut_frzD [(100002,.box (.sl 1 (kindsA h.text) []) .own)] (mut_of_sfun mixedz call182 rfl (m182_1 W h l d t true (kindsA h.text)) Fb12_z1) (frz2 rfl rfl) rfl (by kernel_rfl)
theorem mk_185 (hd:0<=d/\d<=2 ^ 30) (T:List AV) (t':Int) (hT:MutC Tryz.prog W 111 [.gp 100000 0,encV x,iA (d+1)] (rdH t) (.ret (.sl 7 T []) (rdH t'))):MkC W x d t 185 [] (.fn (.func 222) [] [.ip (.sl 7 T []) 0]) t':=by
 have hwd:IntKind.i64.wrap (d+1)=d+1:=IntWalk.i64_in _ (by omega)
 have hc:MutC Tryz.prog W 111 [.gp 100000 0,encV x,iA (IntKind.i64.wrap (d+1))] (rdH t) (.ret (.sl 7 T []) (rdH t')):=by rw [hwd];exact hT
 obtain ⟨h,l⟩:=x
 exact mut_frzD [(100002,.box (.sl 7 T []) .own)] (mut_of_sfun mixedz call185 rfl (m185_0 W h l d t t' T) Fb12_z1) (frz2 rfl rfl) rfl (by kernel_rfl)
theorem mk_186 (hd:0<=d/\d<=2 ^ 30) (T N:List AV) (t':Int) (hT:(isTestB x && !joinsB (firstS x))=true->MutC Tryz.prog W 111 [.gp 100000 0,encV x,iA (d+1)] (rdH t) (.ret (.sl 7 T []) (rdH t')))
 (hQ:(isTestB x && !joinsB (firstS x))=false->MutC Tryz.prog W 63 [.gp 100000 0,encV x,iA (d+1)] (rdH t) (.ret (.agg [.sl 1 N []]) (rdH t'))) :
 MkC W x d t 186 [] (.fn (.func 227) [] [.ip (if (isTestB x && !joinsB (firstS x))=true then .fn (.func 225) [] [.ip (.sl 7 T []) 0] else .fn (.func 226) [] [.ip (.agg [.sl 1 N []]) 0]) 0]) t':=by
 have hwd:IntKind.i64.wrap (d+1)=d+1:=IntWalk.i64_in _ (by omega)
 have hc1:=mut_of_pure (by simp only [cloL,encV_clo,Bool.and_self]) (isTest110 W x)
 have hc2:=mut_of_pure (by rfl) (logical107 W (firstS x))
 have fin1:∀ {h:JH} {l:List JV} (g:FuncId) (c:AV),c.clo=true->MutC Tryz.prog W 186 [.gp 100000 0,encV (.mk h l),iA d] (rdH t) (.ret (.fn (.func 227) [] [.gp 100002 0]) [(100000,.box (iA t') .own),(100002,.box (.fn (.func g) [] [.gp 100003 0]) .own),(100003,.box c .own)]) →
  clA [(100003,GE.box c .own)] c=c->MutC Tryz.prog W 186 [.gp 100000 0,encV (.mk h l),iA d] (rdH t) (.ret (.fn (.func 227) [] [.ip (.fn (.func g) [] [.ip c 0]) 0]) (rdH t')):=by
  intro h l g c hcc hM he
  have h2:=mut_frz [(100003,.box c .own)] hM (frz2 rfl hcc)
  exact mut_frzD [(100002,.box (.fn (.func g) [] [.ip c 0]) .own)] h2 (frz2 rfl rfl) rfl (by kernel_rfl)
 cases e:isTestB x with
 | true =>
  have hc1':=hc1
  rw [e] at hc1' hT hQ
  rw [Bool.true_and] at hT hQ ⊢
  cases e2:joinsB (firstS x) with
  | false =>
   rw [if_pos (by rfl)]
   have hc3:MutC Tryz.prog W 111 [.gp 100000 0,encV x,iA (IntKind.i64.wrap (d+1))] (rdH t) (.ret (.sl 7 T []) (rdH t')):=by rw [hwd];exact hT (by rw [e2];rfl)
   have hc2':=hc2
   rw [e2] at hc2'
   obtain ⟨h,l⟩:=x
   have hget:(List.map AV.str h.names)[0]?=some (AV.str (firstS (.mk h l))):=strs_get (test_mk h l e).2.1
   exact fin1 225 _ rfl (mut_of_sfun mixedz call186 rfl (m186_0 W h l d t t' true false T (firstS (.mk h l))) Fb12_z1) rfl
  | true =>
   rw [if_neg (by decide)]
   have hc3:MutC Tryz.prog W 63 [.gp 100000 0,encV x,iA (IntKind.i64.wrap (d+1))] (rdH t) (.ret (.agg [.sl 1 N []]) (rdH t')):=by rw [hwd];exact hQ (by rw [e2];rfl)
   have hc2':=hc2
   rw [e2] at hc2'
   obtain ⟨h,l⟩:=x
   have hget:(List.map AV.str h.names)[0]?=some (AV.str (firstS (.mk h l))):=strs_get (test_mk h l e).2.1
   exact fin1 226 _ rfl (mut_of_sfun mixedz call186 rfl (m186_1 W h l d t t' true true N (firstS (.mk h l))) Fb12_z1) rfl
 | false =>
  have hc1':=hc1
  rw [e] at hc1' hT hQ
  rw [Bool.false_and] at hT hQ ⊢
  rw [if_neg (by decide)]
  have hc3:MutC Tryz.prog W 63 [.gp 100000 0,encV x,iA (IntKind.i64.wrap (d+1))] (rdH t) (.ret (.agg [.sl 1 N []]) (rdH t')):=by rw [hwd];exact hQ rfl
  obtain ⟨h,l⟩:=x
  exact fin1 226 _ rfl (mut_of_sfun mixedz call186 rfl (m186_2 W h l d t t' false N) Fb12_z1) rfl
end
end
end Go.Ac

