/- What is proved: contracts of functions of this translation, walked; their plain meaning. No condition beyond those that each theorem names. -/
import Derived.Test.YtohlmhkiejpkgaaGreatDoorFr2
set_option linter.all false
namespace Go.Ac
open Go Go.Proofs
set_option maxRecDepth 10000
set_option maxHeartbeats 1000000
theorem Fr3_z1 {kp f ph σ σ'} (h:MatchK kp f ph σ σ':=by exact ⟨by rfl,(by simp only [S67,H67,R67,tOK,List.map_cons,List.map_nil,and_true]<;>exact zt),(by simp only [S67,H67,R67,hOK,List.map_cons,List.map_nil,and_true]<;>exact zh),(by simp only [S67,H67,R67,liveT,List.map_cons,List.map_nil,and_true]<;>exact zv),(by simp only [S67,H67,R67,liveH,List.map_cons,List.map_nil,and_true]<;>exact zv)⟩):MatchK kp f ph σ σ':=h
theorem Fr3_z3 {cs} (h:Holds cs:=by simp only [Holds,and_true]<;>and_intros<;>first|exact zd|(simp only [Bool.not_eq_true',decide_eq_false_iff_not,Bool.not_eq_false',decide_eq_true_eq,Bool.not_true,Bool.not_false];done)|(exact hn;done)|(exact hi;done)|(simp only [Bool.not_eq_true',decide_eq_false_iff_not,Bool.not_eq_false',decide_eq_true_eq,Bool.not_true,Bool.not_false];first|assumption|rfl|omega;done)|(rw [Int.toNat_natCast];first|exact strs_get hx|exact strs_get hy|exact encVs_get hx|exact encVs_get hy;done)|(exact mut_of_pure (by rfl) hih;done)|(simp only [Bool.not_eq_true',decide_eq_false_iff_not,Bool.not_eq_false',decide_eq_true_eq,Bool.not_true,Bool.not_false];simp only [encVs_len,List.length_map,Int.natCast_inj];first|assumption|omega;done)|(simp only [decide_eq_true_eq,decide_eq_false_iff_not,Bool.not_eq_true',Bool.not_eq_false',encVs_len,List.length_map];omega)):Holds cs:=h
theorem Fr3_z4 {cs} (h:Holds cs:=by simp only [Holds,and_true]<;>and_intros<;>first|exact zd|(simp only [Bool.not_eq_true',decide_eq_false_iff_not,Bool.not_eq_false',decide_eq_true_eq,Bool.not_true,Bool.not_false];done)|(exact hn;done)|(exact hi;done)|(simp only [Bool.not_eq_true',decide_eq_false_iff_not,Bool.not_eq_false',decide_eq_true_eq,Bool.not_true,Bool.not_false];first|assumption|rfl|omega;done)|(rw [Int.toNat_natCast];first|exact strs_get hx|exact strs_get hy|exact encVs_get hx|exact encVs_get hy;done)|(exact mut_of_pure (by rfl) hih;done)|(simp only [Bool.not_eq_true',decide_eq_false_iff_not,Bool.not_eq_false',decide_eq_true_eq,Bool.not_true,Bool.not_false];simp only [encVs_len,List.length_map,Int.natCast_inj];first|assumption|omega;done)|exact Fr3_z1|(simp only [decide_eq_true_eq,decide_eq_false_iff_not,Bool.not_eq_true',Bool.not_eq_false',encVs_len,List.length_map];omega)):Holds cs:=h
def H67 (h:JH) (l:List JV) (g:JH) (k:List JV):List (Nat×GE):=[(100000,.box (encV (.mk h l)) .own),(100001,.box (encV (.mk g k)) .own)]
def S67 (h:JH) (l:List JV) (g:JH) (k:List JV) (s i:Nat):AS:=⟨[(2,.gp 100000 0),(3,.gp 100001 0),(s,iA i)],H67 h l g k⟩
def R67:AS:=⟨[(4,bA false)],[]⟩
theorem n67_0 (W:World) (h:JH) (l:List JV) (g:JH) (k:List JV) (i:Nat) (x y:List UInt8):sbodyM Tryz.prog W {tl:=[67],lp:=true} 67 0 [] (S67 h l g k 5 i) [bt,aE 1,oS (.str x),aE 1,oS (.str y),bt,ee]=.ok ((.ret,{t:=[(2,.gp 100000 0),(3,.gp 100001 0),(4,.val (Value.bool false)),(5,iA (i:Int)),(44,.val (Value.int IntKind.i64 (i:Int))),(45,.gp 100000 3),(46,sL 1 (List.map AV.str h.names)),(47,.val (Value.int IntKind.i64 (↑(List.map AV.str h.names).length:Int))),(48,.val (Value.bool (decide ((i:Int)<(↑(List.map AV.str h.names).length:Int))))),(51,.gp 100000 3),(52,sL 1 (List.map AV.str h.names)),(53,.val (Value.int IntKind.i64 (i:Int))),(54,(AV.str x).ip 0),(55,.str x),(56,.gp 100001 3),(57,sL 1 (List.map AV.str g.names)),(58,.val (Value.int IntKind.i64 (i:Int))),(59,(AV.str y).ip 0),(60,.str y),(61,.val (Value.bool !decide (x=y)))],h:=[(100000,gB (eV h l)),(100001,gB (eV g k))]}),[ee],[(!decide (x=y))=true,(List.map AV.str g.names)[(i:Int).toNat]?=some (AV.str y),(List.map AV.str h.names)[(i:Int).toNat]?=some (AV.str x),decide ((i:Int)<(↑(List.map AV.str h.names).length:Int))=true]):=kr
theorem n67_1 (W:World) (h:JH) (l:List JV) (g:JH) (k:List JV) (i:Nat) (x y:List UInt8):sbodyM Tryz.prog W {tl:=[67],lp:=true} 67 0 [] (S67 h l g k 5 i) [bt,aE 1,oS (.str x),aE 1,oS (.str y),bf,ee]=.ok ((.normal,{t:=[(2,.gp 100000 0),(3,.gp 100001 0),(5,.val (Value.int IntKind.i64 (IntKind.i64.wrap ((i:Int)+1)))),(44,.val (Value.int IntKind.i64 (i:Int))),(45,.gp 100000 3),(46,sL 1 (List.map AV.str h.names)),(47,.val (Value.int IntKind.i64 (↑(List.map AV.str h.names).length:Int))),(48,.val (Value.bool (decide ((i:Int)<(↑(List.map AV.str h.names).length:Int))))),(49,.val (Value.int IntKind.i64 (i:Int))),(50,.val (Value.int IntKind.i64 (IntKind.i64.wrap ((i:Int)+1)))),(51,.gp 100000 3),(52,sL 1 (List.map AV.str h.names)),(53,.val (Value.int IntKind.i64 (i:Int))),(54,(AV.str x).ip 0),(55,.str x),(56,.gp 100001 3),(57,sL 1 (List.map AV.str g.names)),(58,.val (Value.int IntKind.i64 (i:Int))),(59,(AV.str y).ip 0),(60,.str y),(61,.val (Value.bool !decide (x=y)))],h:=[(100000,gB (eV h l)),(100001,gB (eV g k))]}),[ee],[(!decide (x=y))=false,(List.map AV.str g.names)[(i:Int).toNat]?=some (AV.str y),(List.map AV.str h.names)[(i:Int).toNat]?=some (AV.str x),decide ((i:Int)<(↑(List.map AV.str h.names).length:Int))=true]):=kr
theorem n67_2 (W:World) (h:JH) (l:List JV) (g:JH) (k:List JV) (i:Nat):sbodyM Tryz.prog W {tl:=[67],lp:=true} 67 0 [] (S67 h l g k 5 i) [bf,ee]=.ok ((.exit 0,{t:=[(2,.gp 100000 0),(3,.gp 100001 0),(5,iA (i:Int)),(44,.val (Value.int IntKind.i64 (i:Int))),(45,.gp 100000 3),(46,sL 1 (List.map AV.str h.names)),(47,.val (Value.int IntKind.i64 (↑(List.map AV.str h.names).length:Int))),(48,.val (Value.bool (decide ((i:Int)<(↑(List.map AV.str h.names).length:Int)))))],h:=[(100000,gB (eV h l)),(100001,gB (eV g k))]}),[ee],[decide ((i:Int)<(↑(List.map AV.str h.names).length:Int))=false]):=kr
theorem i67_0 (W:World) (h:JH) (l:List JV) (g:JH) (k:List JV) (i:Nat) (h1:JH) (l1:List JV) (h2:JH) (l2:List JV) (b:Bool):sbodyM Tryz.prog W {tl:=[67],lp:=true} 67 1 [] (S67 h l g k 6 i) [bt,aE 1,oS (eV h1 l1),aE 1,oS (eV h2 l2),ee,cR (bA b) [],bt,ee]=.ok ((.ret,{t:=[(2,.gp 100000 0),(3,.gp 100001 0),(4,.val (Value.bool false)),(6,iA (i:Int)),(62,.val (Value.int IntKind.i64 (i:Int))),(63,.gp 100000 4),(64,sL 5 (encVs l)),(65,.val (Value.int IntKind.i64 (↑(encVs l).length:Int))),(66,.val (Value.bool (decide ((i:Int)<(↑(encVs l).length:Int))))),(69,.gp 100000 4),(70,sL 5 (encVs l)),(71,.val (Value.int IntKind.i64 (i:Int))),(72,(eV h1 l1).ip 0),(73,.agg [.val (Value.int IntKind.i64 h1.kind),.val (Value.int IntKind.i64 h1.int),.str h1.3,sL 1 (List.map AV.str h1.names),sL 5 (encVs l1)]),(74,.gp 100001 4),(75,sL 5 (encVs k)),(76,.val (Value.int IntKind.i64 (i:Int))),(77,(eV h2 l2).ip 0),(78,.agg [.val (Value.int IntKind.i64 h2.kind),.val (Value.int IntKind.i64 h2.int),.str h2.3,sL 1 (List.map AV.str h2.names),sL 5 (encVs l2)]),(79,.val (Value.bool b)),(80,.val (Value.bool !b))],h:=[(100000,gB (eV h l)),(100001,gB (eV g k))]}),[ee],[(!b)=true,MZ W 67 [.agg [.val (Value.int IntKind.i64 h1.kind),.val (Value.int IntKind.i64 h1.int),.str h1.3,sL 1 (List.map AV.str h1.names),sL 5 (encVs l1)],.agg [.val (Value.int IntKind.i64 h2.kind),.val (Value.int IntKind.i64 h2.int),.str h2.3,sL 1 (List.map AV.str h2.names),sL 5 (encVs l2)]] [] (.ret (bA b) []),(encVs k)[(i:Int).toNat]?=some (eV h2 l2),(encVs l)[(i:Int).toNat]?=some (eV h1 l1),decide ((i:Int)<(↑(encVs l).length:Int))=true]):=kr
theorem i67_1 (W:World) (h:JH) (l:List JV) (g:JH) (k:List JV) (i:Nat) (h1:JH) (l1:List JV) (h2:JH) (l2:List JV) (b:Bool):sbodyM Tryz.prog W {tl:=[67],lp:=true} 67 1 [] (S67 h l g k 6 i) [bt,aE 1,oS (eV h1 l1),aE 1,oS (eV h2 l2),ee,cR (bA b) [],bf,ee]=.ok ((.normal,{t:=[(2,.gp 100000 0),(3,.gp 100001 0),(6,.val (Value.int IntKind.i64 (IntKind.i64.wrap ((i:Int)+1)))),(62,.val (Value.int IntKind.i64 (i:Int))),(63,.gp 100000 4),(64,sL 5 (encVs l)),(65,.val (Value.int IntKind.i64 (↑(encVs l).length:Int))),(66,.val (Value.bool (decide ((i:Int)<(↑(encVs l).length:Int))))),(67,.val (Value.int IntKind.i64 (i:Int))),(68,.val (Value.int IntKind.i64 (IntKind.i64.wrap ((i:Int)+1)))),(69,.gp 100000 4),(70,sL 5 (encVs l)),(71,.val (Value.int IntKind.i64 (i:Int))),(72,(eV h1 l1).ip 0),(73,.agg [.val (Value.int IntKind.i64 h1.kind),.val (Value.int IntKind.i64 h1.int),.str h1.3,sL 1 (List.map AV.str h1.names),sL 5 (encVs l1)]),(74,.gp 100001 4),(75,sL 5 (encVs k)),(76,.val (Value.int IntKind.i64 (i:Int))),(77,(eV h2 l2).ip 0),(78,.agg [.val (Value.int IntKind.i64 h2.kind),.val (Value.int IntKind.i64 h2.int),.str h2.3,sL 1 (List.map AV.str h2.names),sL 5 (encVs l2)]),(79,.val (Value.bool b)),(80,.val (Value.bool !b))],h:=[(100000,gB (eV h l)),(100001,gB (eV g k))]}),[ee],[(!b)=false,MZ W 67 [.agg [.val (Value.int IntKind.i64 h1.kind),.val (Value.int IntKind.i64 h1.int),.str h1.3,sL 1 (List.map AV.str h1.names),sL 5 (encVs l1)],.agg [.val (Value.int IntKind.i64 h2.kind),.val (Value.int IntKind.i64 h2.int),.str h2.3,sL 1 (List.map AV.str h2.names),sL 5 (encVs l2)]] [] (.ret (bA b) []),(encVs k)[(i:Int).toNat]?=some (eV h2 l2),(encVs l)[(i:Int).toNat]?=some (eV h1 l1),decide ((i:Int)<(↑(encVs l).length:Int))=true]):=kr
theorem i67_2 (W:World) (h:JH) (l:List JV) (g:JH) (k:List JV) (i:Nat):sbodyM Tryz.prog W {tl:=[67],lp:=true} 67 1 [] (S67 h l g k 6 i) [bf,ee]=.ok ((.exit 2,{t:=[(2,.gp 100000 0),(3,.gp 100001 0),(6,iA (i:Int)),(62,.val (Value.int IntKind.i64 (i:Int))),(63,.gp 100000 4),(64,sL 5 (encVs l)),(65,.val (Value.int IntKind.i64 (↑(encVs l).length:Int))),(66,.val (Value.bool (decide ((i:Int)<(↑(encVs l).length:Int)))))],h:=[(100000,gB (eV h l)),(100001,gB (eV g k))]}),[ee],[decide ((i:Int)<(↑(encVs l).length:Int))=false]):=kr
theorem q67_0 (W:World) (h:JH) (l:List JV) (g:JH) (k:List JV):sfun Tryz.prog W {tl:=[67],lp:=true} 1000 5 67 [eV h l,eV g k] [] 100000 [bt,bt,bt,bt,bt,bt,ee] []=.ok (.ret (.val (Value.bool false)) [],[aE 9999977],d6 ((!decide (h.kind=g.kind))=true) []):=kr
theorem q67_1 (W:World) (h:JH) (l:List JV) (g:JH) (k:List JV):sfun Tryz.prog W {tl:=[67],lp:=true} 1000 5 67 [eV h l,eV g k] [] 100000 [bf,bf,bf,bf,bf,bf,bt,bt,bt,bt,bt,bt,ee] []=.ok (.ret (.val (Value.bool false)) [],[aE 9999983],d6 ((!decide (h.int=g.int))=true) (d6 ((!decide (h.kind=g.kind))=false) [])):=kr
theorem q67_2 (W:World) (h:JH) (l:List JV) (g:JH) (k:List JV):sfun Tryz.prog W {tl:=[67],lp:=true} 1000 5 67 [eV h l,eV g k] [] 100000 [bf,bf,bf,bf,bf,bf,bf,bf,bf,bf,bf,bf,bt,bt,bt,bt,bt,bt,bt,bt,ee] []=.ok (.ret (.val (Value.bool false)) [],[aE 9999991],d2 ((!decide (h.text=g.text))=true) (d6 ((!decide (h.text=g.text))=true) (d6 ((!decide (h.int=g.int))=false) (d6 ((!decide (h.kind=g.kind))=false) [])))):=kr
theorem q67_3 (W:World) (h:JH) (l:List JV) (g:JH) (k:List JV):sfun Tryz.prog W {tl:=[67],lp:=true} 1000 5 67 [eV h l,eV g k] [] 100000 [bf,bf,bf,bf,bf,bf,bf,bf,bf,bf,bf,bf,bf,bf,bf,bf,bf,bf,bf,bf,bt,bt,bt,bt,bt,bt,bt,bt,ee] []=.ok (.ret (.val (Value.bool false)) [],[aE 9999999],d2 ((!decide ((↑(List.map AV.str h.names).length:Int)=(↑(List.map AV.str g.names).length:Int)))=true) (d6 ((!decide ((↑(List.map AV.str h.names).length:Int)=(↑(List.map AV.str g.names).length:Int)))=true) (d2 ((!decide (h.text=g.text))=false) (d6 ((!decide (h.text=g.text))=false) (d6 ((!decide (h.int=g.int))=false) (d6 ((!decide (h.kind=g.kind))=false) [])))))):=kr
theorem q67_4 (W:World) (h:JH) (l:List JV) (g:JH) (k:List JV):sfun Tryz.prog W {tl:=[67],lp:=true} 1000 5 67 [eV h l,eV g k] [] 100000 [bf,bf,bf,bf,bf,bf,bf,bf,bf,bf,bf,bf,bf,bf,bf,bf,bf,bf,bf,bf,bf,bf,bf,bf,bf,bf,bf,bf,bt,ee] []=.ok (.ret (.val (Value.bool false)) [],[ee],((!decide ((↑(encVs l).length:Int)=(↑(encVs k).length:Int)))=true)::(d2 ((!decide ((↑(List.map AV.str h.names).length:Int)=(↑(List.map AV.str g.names).length:Int)))=false) (d6 ((!decide ((↑(List.map AV.str h.names).length:Int)=(↑(List.map AV.str g.names).length:Int)))=false) (d2 ((!decide (h.text=g.text))=false) (d6 ((!decide (h.text=g.text))=false) (d6 ((!decide (h.int=g.int))=false) (d6 ((!decide (h.kind=g.kind))=false) []))))))):=kr
theorem q67_5 (W:World) (h:JH) (l:List JV) (g:JH) (k:List JV) (i j:Nat):sfun Tryz.prog W {tl:=[67],lp:=true} 1000 5 67 [eV h l,eV g k] [] 100000 [bf,bf,bf,bf,bf,bf,bf,bf,bf,bf,bf,bf,bf,bf,bf,bf,bf,bf,bf,bf,bf,bf,bf,bf,bf,bf,bf,bf,bf,ee,.loopM [] [] (S67 h l g k 5 0) (.exit 0) (S67 h l g k 5 i),ee,.loopM [] [] (S67 h l g k 6 0) (.exit 2) (S67 h l g k 6 j),ee] []=.ok (.ret (.val (Value.bool true)) [],[ee],LZ W [] 67 1 (S67 h l g k 6 0) (.exit 2) (S67 h l g k 6 j)::MatchK [] [] [] {t:=[(2,.gp 100000 0),(3,.gp 100001 0),(6,.val (Value.int IntKind.i64 0))],h:=[(100000,gB (eV h l)),(100001,gB (eV g k))]} (S67 h l g k 6 0)::LZ W [] 67 0 (S67 h l g k 5 0) (.exit 0) (S67 h l g k 5 i)::MatchK [] [] [] {t:=[(2,.gp 100000 0),(3,.gp 100001 0),(5,.val (Value.int IntKind.i64 0))],h:=[(100000,gB (.agg [.val (Value.int IntKind.i64 h.kind),.val (Value.int IntKind.i64 h.int),.str h.3,sL 1 (List.map AV.str h.names),sL 5 (encVs l)])),(100001,gB (.agg [.val (Value.int IntKind.i64 g.kind),.val (Value.int IntKind.i64 g.int),.str g.3,sL 1 (List.map AV.str g.names),sL 5 (encVs k)]))]} (S67 h l g k 5 0)::((!decide ((↑(encVs l).length:Int)=(↑(encVs k).length:Int)))=false)::(d2 ((!decide ((↑(List.map AV.str h.names).length:Int)=(↑(List.map AV.str g.names).length:Int)))=false) (d6 ((!decide ((↑(List.map AV.str h.names).length:Int)=(↑(List.map AV.str g.names).length:Int)))=false) (d2 ((!decide (h.text=g.text))=false) (d6 ((!decide (h.text=g.text))=false) (d6 ((!decide (h.int=g.int))=false) (d6 ((!decide (h.kind=g.kind))=false) []))))))):=kr
theorem r67_5 (W:World) (h:JH) (l:List JV) (g:JH) (k:List JV):sfun Tryz.prog W {tl:=[67],lp:=true} 1000 5 67 [eV h l,eV g k] [] 100000 [bf,bf,bf,bf,bf,bf,bf,bf,bf,bf,bf,bf,bf,bf,bf,bf,bf,bf,bf,bf,bf,bf,bf,bf,bf,bf,bf,bf,bf,ee,.loopM [] [] (S67 h l g k 5 0) .ret R67,ee] []=.ok (.ret (.val (Value.bool false)) [],[ee],LZ W [] 67 0 (S67 h l g k 5 0) .ret R67::MatchK [] [] [] {t:=[(2,.gp 100000 0),(3,.gp 100001 0),(5,.val (Value.int IntKind.i64 0))],h:=[(100000,gB (.agg [.val (Value.int IntKind.i64 h.kind),.val (Value.int IntKind.i64 h.int),.str h.3,sL 1 (List.map AV.str h.names),sL 5 (encVs l)])),(100001,gB (.agg [.val (Value.int IntKind.i64 g.kind),.val (Value.int IntKind.i64 g.int),.str g.3,sL 1 (List.map AV.str g.names),sL 5 (encVs k)]))]} (S67 h l g k 5 0)::((!decide ((↑(encVs l).length:Int)=(↑(encVs k).length:Int)))=false)::(d2 ((!decide ((↑(List.map AV.str h.names).length:Int)=(↑(List.map AV.str g.names).length:Int)))=false) (d6 ((!decide ((↑(List.map AV.str h.names).length:Int)=(↑(List.map AV.str g.names).length:Int)))=false) (d2 ((!decide (h.text=g.text))=false) (d6 ((!decide (h.text=g.text))=false) (d6 ((!decide (h.int=g.int))=false) (d6 ((!decide (h.kind=g.kind))=false) []))))))):=kr
theorem s67_5 (W:World) (h:JH) (l:List JV) (g:JH) (k:List JV) (i:Nat):sfun Tryz.prog W {tl:=[67],lp:=true} 1000 5 67 [eV h l,eV g k] [] 100000 [bf,bf,bf,bf,bf,bf,bf,bf,bf,bf,bf,bf,bf,bf,bf,bf,bf,bf,bf,bf,bf,bf,bf,bf,bf,bf,bf,bf,bf,ee,.loopM [] [] (S67 h l g k 5 0) (.exit 0) (S67 h l g k 5 i),ee,.loopM [] [] (S67 h l g k 6 0) .ret R67,ee] []=.ok (.ret (.val (Value.bool false)) [],[ee],LZ W [] 67 1 (S67 h l g k 6 0) .ret R67::MatchK [] [] [] {t:=[(2,.gp 100000 0),(3,.gp 100001 0),(6,.val (Value.int IntKind.i64 0))],h:=[(100000,gB (eV h l)),(100001,gB (eV g k))]} (S67 h l g k 6 0)::LZ W [] 67 0 (S67 h l g k 5 0) (.exit 0) (S67 h l g k 5 i)::MatchK [] [] [] {t:=[(2,.gp 100000 0),(3,.gp 100001 0),(5,.val (Value.int IntKind.i64 0))],h:=[(100000,gB (.agg [.val (Value.int IntKind.i64 h.kind),.val (Value.int IntKind.i64 h.int),.str h.3,sL 1 (List.map AV.str h.names),sL 5 (encVs l)])),(100001,gB (.agg [.val (Value.int IntKind.i64 g.kind),.val (Value.int IntKind.i64 g.int),.str g.3,sL 1 (List.map AV.str g.names),sL 5 (encVs k)]))]} (S67 h l g k 5 0)::((!decide ((↑(encVs l).length:Int)=(↑(encVs k).length:Int)))=false)::(d2 ((!decide ((↑(List.map AV.str h.names).length:Int)=(↑(List.map AV.str g.names).length:Int)))=false) (d6 ((!decide ((↑(List.map AV.str h.names).length:Int)=(↑(List.map AV.str g.names).length:Int)))=false) (d2 ((!decide (h.text=g.text))=false) (d6 ((!decide (h.text=g.text))=false) (d6 ((!decide (h.int=g.int))=false) (d6 ((!decide (h.kind=g.kind))=false) []))))))):=kr
theorem call67:callable Tryz.prog 67=true:=kr
section
variable (W:World) (h:JH) (l:List JV) (g:JH) (k:List JV)
theorem namesExit (hl:h.names.length<=2 ^ 50) (e:h.names=g.names):∀ i:Nat,i<=h.names.length->LoopC Tryz.prog W [] (nslots Tryz.prog 67) (loopOf Tryz.prog 67 0) (S67 h l g k 5 i) (.exit 0) (S67 h l g k 5 h.names.length):=by
 refine loopC_inv (fun i:Nat=>S67 h l g k 5 i) (fun i=>i<=h.names.length) (fun i=>h.names.length - i) (by simp) ?_
 intro i h1
 by_cases hi:i<h.names.length
 ·obtain ⟨x,hx⟩:=getOf hi
  have hy:g.names[i]?=some x:=by rw [<-e];exact hx
  left
  exact ⟨i+1,by omega,by omega,body_of_sbodyM mixedz (n67_1 W h l g k i x x) Fr3_z3 [] [] Fr3_z1⟩
 ·right
  have hil:i=h.names.length:=by omega
  subst hil
  exact body_of_sbodyM mixedz (n67_2 W h l g k h.names.length) Fr3_z4 [] [] Fr3_z1
theorem namesRet (hl:h.names.length<=2 ^ 50) (hs:h.names.length=g.names.length) (e:h.names ≠ g.names):∀ i:Nat,(i<=h.names.length/\∀ q,q<i->h.names[q]?=g.names[q]?)->LoopC Tryz.prog W [] (nslots Tryz.prog 67) (loopOf Tryz.prog 67 0) (S67 h l g k 5 i) .ret R67:=by
 refine loopC_inv (fun i:Nat=>S67 h l g k 5 i) (fun i=>i<=h.names.length/\∀ q,q<i->h.names[q]?=g.names[q]?) (fun i=>h.names.length - i) (by simp) ?_
 rintro i ⟨h1,h2⟩
 by_cases hi:i<h.names.length
 ·obtain ⟨x,hx⟩:=getOf hi
  obtain ⟨y,hy⟩:=getOf (l:=g.names) (i:=i) (by omega)
  by_cases hxy:x=y
  ·left
   exact ⟨i+1,⟨by omega,upto_succ h2 (by rw [hx,hy,hxy])⟩,by omega,body_of_sbodyM mixedz (n67_1 W h l g k i x y) Fr3_z3 [] [] Fr3_z1⟩
  ·right
   exact body_of_sbodyM mixedz (n67_0 W h l g k i x y) Fr3_z3 [] [] Fr3_z1
 ·exact absurd (eq_of_get hs fun q hq=>h2 q (by omega)) e
theorem itemsExit (hl:l.length<=2 ^ 50) (e:l=k) (ih:∀ (i:Nat) (x y:JV),l[i]?=some x->k[i]?=some y->Pure Tryz.prog W 67 [encV x,encV y] (bA (eqV x y))):∀ i:Nat,i<=l.length->LoopC Tryz.prog W [] (nslots Tryz.prog 67) (loopOf Tryz.prog 67 1) (S67 h l g k 6 i) (.exit 2) (S67 h l g k 6 l.length):=by
 refine loopC_inv (fun i:Nat=>S67 h l g k 6 i) (fun i=>i<=l.length) (fun i=>l.length - i) (by simp) ?_
 intro i h1
 by_cases hi:i<l.length
 ·obtain ⟨x,hx⟩:=getOf hi
  have hy:k[i]?=some x:=by rw [<-e];exact hx
  left
  have hih:=ih i x x hx hy
  rw [eqV_true] at hih
  cases x with
  | mk h1 l1=>exact ⟨i+1,by omega,by omega,body_of_sbodyM mixedz (i67_1 W h l g k i h1 l1 h1 l1 true) Fr3_z3 [] [] Fr3_z1⟩
 ·right
  have hil:i=l.length:=by omega
  subst hil
  exact body_of_sbodyM mixedz (i67_2 W h l g k l.length) Fr3_z4 [] [] Fr3_z1
theorem itemsRet (hl:l.length<=2 ^ 50) (hs:l.length=k.length) (e:l ≠ k) (ih:∀ (i:Nat) (x y:JV),l[i]?=some x->k[i]?=some y->Pure Tryz.prog W 67 [encV x,encV y] (bA (eqV x y))):∀ i:Nat,(i<=l.length/\∀ q,q<i->l[q]?=k[q]?)->LoopC Tryz.prog W [] (nslots Tryz.prog 67) (loopOf Tryz.prog 67 1) (S67 h l g k 6 i) .ret R67:=by
 refine loopC_inv (fun i:Nat=>S67 h l g k 6 i) (fun i=>i<=l.length/\∀ q,q<i->l[q]?=k[q]?) (fun i=>l.length - i) (by simp) ?_
 rintro i ⟨h1,h2⟩
 by_cases hi:i<l.length
 ·obtain ⟨x,hx⟩:=getOf hi
  obtain ⟨y,hy⟩:=getOf (l:=k) (i:=i) (by omega)
  have hih:=ih i x y hx hy
  by_cases hxy:x=y
  ·left
   rw [hxy,eqV_true] at hih
   refine ⟨i+1,⟨by omega,upto_succ h2 (by rw [hx,hy,hxy])⟩,by omega,?_⟩
   subst hxy
   cases x with
   | mk h1 l1=>exact body_of_sbodyM mixedz (i67_1 W h l g k i h1 l1 h1 l1 true) Fr3_z3 [] [] Fr3_z1
  ·right
   rw [eqV_false hxy] at hih
   cases x with
   | mk h1 l1=>cases y with
    | mk g1 k1=>exact body_of_sbodyM mixedz (i67_0 W h l g k i h1 l1 g1 k1 false) Fr3_z3 [] [] Fr3_z1
 ·exact absurd (eq_of_get hs fun q hq=>h2 q (by omega)) e
theorem equal67_step (ha:h.names.length<=2 ^ 50/\l.length<=2 ^ 50) (ih:∀ (i:Nat) (x y:JV),l[i]?=some x->k[i]?=some y->Pure Tryz.prog W 67 [encV x,encV y] (bA (eqV x y))) :
 Pure Tryz.prog W 67 [encV (.mk h l),encV (.mk g k)] (bA (eqV (.mk h l) (.mk g k))):=by
 have no:∀ {b:Bool},(JV.mk h l ≠ .mk g k)->b=false->bA b=bA (eqV (.mk h l) (.mk g k)):=fun h1 h2=>by rw [eqV_false h1,h2]
 by_cases e1:h.kind=g.kind
 case neg=>rw [eqV_false (fun e=>e1 (by injection e with e _;rw [e]))];exact pure_of_mut rfl (mut_of_sfun mixedz call67 rfl (q67_0 W h l g k) Fr3_z4)
 by_cases e2:h.int=g.int
 case neg=>rw [eqV_false (fun e=>e2 (by injection e with e _;rw [e]))];exact pure_of_mut rfl (mut_of_sfun mixedz call67 rfl (q67_1 W h l g k) Fr3_z4)
 by_cases e3:h.text=g.text
 case neg=>rw [eqV_false (fun e=>e3 (by injection e with e _;rw [e]))];exact pure_of_mut rfl (mut_of_sfun mixedz call67 rfl (q67_2 W h l g k) Fr3_z4)
 by_cases e4:h.names.length=g.names.length
 case neg=>rw [eqV_false (fun e=>e4 (by injection e with e _;rw [e]))];exact pure_of_mut rfl (mut_of_sfun mixedz call67 rfl (q67_3 W h l g k) Fr3_z4)
 by_cases e5:l.length=k.length
 case neg=>rw [eqV_false (fun e=>e5 (by injection e with _ e;rw [e]))];exact pure_of_mut rfl (mut_of_sfun mixedz call67 rfl (q67_4 W h l g k) Fr3_z4)
 by_cases e6:h.names=g.names
 case neg =>
  have hlp:=namesRet W h l g k ha.1 e4 e6 0 ⟨by omega,by intro q hq;omega⟩
  rw [eqV_false (fun e=>e6 (by injection e with e _;rw [e]))];exact pure_of_mut rfl (mut_of_sfun mixedz call67 rfl (r67_5 W h l g k) Fr3_z4)
 have hn:=namesExit W h l g k ha.1 e6 0 (by omega)
 by_cases e7:l=k
 case neg =>
  have hlp:=itemsRet W h l g k ha.2 e5 e7 ih 0 ⟨by omega,by intro q hq;omega⟩
  rw [eqV_false (fun e=>e7 (by injection e))];exact pure_of_mut rfl (mut_of_sfun mixedz call67 rfl (s67_5 W h l g k h.names.length) Fr3_z4)
 have hi:=itemsExit W h l g k ha.2 e7 ih 0 (by omega)
 have e:JV.mk h l=.mk g k:=by rw [e7];congr 1;cases h;cases g;simp only at e1 e2 e3 e6;subst e1 e2 e3 e6;rfl
 rw [show eqV (.mk h l) (.mk g k)=true by rw [e];exact eqV_true _]
 exact pure_of_mut rfl (mut_of_sfun mixedz call67 rfl (q67_5 W h l g k h.names.length l.length) Fr3_z4)
end
theorem equal67 (W:World):∀ (n:Nat) (a b:JV),sizeV a<n->okV a->Pure Tryz.prog W 67 [encV a,encV b] (bA (eqV a b))
 | 0,_,_,h,_=>by omega
 | n+1,.mk h l,.mk g k,hs,hv=>equal67_step W h l g k ⟨hv.1,hv.2.1⟩ fun i x y hx _=>equal67 W n x y (by have:=sizeV_item (v:=.mk h l) hx;omega) (okVs_get hv.2.2 hx)
end Go.Ac

