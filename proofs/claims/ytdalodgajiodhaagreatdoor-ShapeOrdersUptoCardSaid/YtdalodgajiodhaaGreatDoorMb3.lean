/- What is proved: contracts of functions of this translation, walked; their plain meaning. No condition beyond those that each theorem names. -/
import Derived.Test.YtdalodgajiodhaaGreatDoorMb2
import Derived.Test.YtdalodgajiodhaaGreatDoorMb1
import Derived.Test.YtdalodgajiodhaaGreatDoorMa6
import Derived.RangeFuncNested
import Derived.RangeFuncBound
import Derived.RangeFuncCalls
import Derived.RangeFuncLeaves
import Derived.RangeFuncBox
import Derived.Shelf.Abstract
import Derived.Shelf.RegionOpen
import Derived.WalkKit
import Derived.OwnWalkIn
import Derived.TacticsInMore
import Derived.LoopNIn
import Derived.LoopIn
import Derived.Test.YtdalodgajiodhaaGreatDoorProg
import Derived.Test.YtdalodgajiodhaaGreatDoorMa5
set_option linter.all false
namespace Go.Ac
open Go Go.Proofs
set_option maxRecDepth 10000
set_option maxHeartbeats 1000000
theorem Fb8_z1 {kp f ph σ σ'} (h:MatchK kp f ph σ σ':=by exact ⟨by rfl,(by simp only [S123,E123,S124,E124,S129,S128,E128,Rv,H124,tOK,List.map_cons,List.map_nil,and_true]<;>exact zt),(by simp only [S123,E123,S124,E124,S129,S128,E128,Rv,H124,hOK,List.map_cons,List.map_nil,and_true]<;>exact zh),(by simp only [S123,E123,S124,E124,S129,S128,E128,Rv,H124,liveT,List.map_cons,List.map_nil,and_true]<;>exact zv),(by simp only [S123,E123,S124,E124,S129,S128,E128,Rv,H124,liveH,List.map_cons,List.map_nil,and_true]<;>exact zv)⟩):MatchK kp f ph σ σ':=h
theorem Fb8_z2 {cs} (h:Holds cs:=by simp only [Holds,and_true]<;>and_intros<;>first|exact zd):Holds cs:=h
theorem Fb8_z3 {cs} (h:Holds cs:=by simp only [Holds,and_true]<;>and_intros<;>first|exact zd|exact Fb8_z1):Holds cs:=h
def S123 (a b:List JV) (i:Nat):AS:=⟨[(0,.sl 5 (encVs a) []),(1,.sl 5 (encVs b) []),(2,.val (.func (.func 36) #[] #[])),(11,.sl 5 (encVs a) []),(12,iA a.length),(13,iA i)],[]⟩
def E123 (a b:List JV):AS:=⟨[(0,.sl 5 (encVs a) []),(1,.sl 5 (encVs b) [])],[]⟩
def H124 (h:JH) (l:List JV) (h2:JH) (l2:List JV):List (Nat×GE):=[(100000,.box (encV (.mk h l)) .own),(100001,.box (encV (.mk h2 l2)) .own)]
def S124 (h:JH) (l:List JV) (h2:JH) (l2:List JV) (n m k i:Nat):AS:=⟨[(2,.gp 100000 0),(3,.gp 100001 0),(5,iA n),(6,iA m),(26,iA k),(27,iA i)],H124 h l h2 l2⟩
def S129 (h:JH) (l:List JV) (h2:JH) (l2:List JV) (n m i:Nat):AS:=⟨[(2,.gp 100000 0),(3,.gp 100001 0),(5,iA n),(6,iA m),(7,iA i)],H124 h l h2 l2⟩
def E124 (n m:Nat):AS:=⟨[(5,iA n),(6,iA m)],[]⟩
def S128 (a b:List UInt8) (i:Nat):AS:=⟨[(0,.str a),(1,.str b),(5,iA i)],[]⟩
def E128 (a b:List UInt8):AS:=⟨[(0,.str a),(1,.str b)],[]⟩
def Rv (k:Nat) (v:Int):AS:=⟨[(k,iA v)],[]⟩
theorem p119_3 (W:World) (a b:Int):sF W {} 63 [iA a,iA b] [] 100000 [aE 2,bf,bf,bt,ee] []=.ok (.ret (iA (-1)) [],[ee],[decide (a<b)=true,(!decide (b=b))=false,(!decide (a=a))=false]):=kr
theorem p119_4 (W:World) (a b:Int):sF W {} 63 [iA a,iA b] [] 100000 [aE 2,bf,bf,bf,bt,ee] []=.ok (.ret (iA 1) [],[ee],[decide (b<a)=true,decide (a<b)=false,(!decide (b=b))=false,(!decide (a=a))=false]):=kr
theorem p119_5 (W:World) (a b:Int):sF W {} 63 [iA a,iA b] [] 100000 [aE 2,bf,bf,bf,bf,ee] []=.ok (.ret (iA 0) [],[ee],[decide (b<a)=false,decide (a<b)=false,(!decide (b=b))=false,(!decide (a=a))=false]):=kr
theorem p121_3 (W:World) (a b:Int):sF W {} 65 [iA a,iA b] [] 100000 [aE 2,bf,bf,bt,ee] []=.ok (.ret (iA (-1)) [],[ee],[decide (a<b)=true,(!decide (b=b))=false,(!decide (a=a))=false]):=kr
theorem p121_4 (W:World) (a b:Int):sF W {} 65 [iA a,iA b] [] 100000 [aE 2,bf,bf,bf,bt,ee] []=.ok (.ret (iA 1) [],[ee],[decide (b<a)=true,decide (a<b)=false,(!decide (b=b))=false,(!decide (a=a))=false]):=kr
theorem p121_5 (W:World) (a b:Int):sF W {} 65 [iA a,iA b] [] 100000 [aE 2,bf,bf,bf,bf,ee] []=.ok (.ret (iA 0) [],[ee],[decide (b<a)=false,decide (a<b)=false,(!decide (b=b))=false,(!decide (a=a))=false]):=kr
theorem p126_0 (W:World) (a b:Int):sF W {} 70 [iA a,iA b] [] 100000 [bt,ee] []=.ok (.ret (iA (-1)) [],[ee],[decide (a<b)=true]):=kr
theorem p126_1 (W:World) (a b:Int):sF W {} 70 [iA a,iA b] [] 100000 [bf,bt,ee] []=.ok (.ret (iA 1) [],[ee],[decide (b<a)=true,decide (a<b)=false]):=kr
theorem p126_2 (W:World) (a b:Int):sF W {} 70 [iA a,iA b] [] 100000 [bf,bf,ee] []=.ok (.ret (iA 0) [],[ee],[decide (b<a)=false,decide (a<b)=false]):=kr
theorem p122_3 (W:World) (a b:List UInt8):sF W {} 66 [.str a,.str b] [] 100000 [aE 2,bf,bf,bt,ee] []=.ok (.ret (iA (-1)) [],[ee],[Op.bytesLess a b=true,(!decide (b=b))=false,(!decide (a=a))=false]):=kr
theorem p122_4 (W:World) (a b:List UInt8):sF W {} 66 [.str a,.str b] [] 100000 [aE 2,bf,bf,bf,bt,ee] []=.ok (.ret (iA 1) [],[ee],[(!(Op.bytesLess a b || decide (a=b)))=true,Op.bytesLess a b=false,(!decide (b=b))=false,(!decide (a=a))=false]):=kr
theorem p122_5 (W:World) (a b:List UInt8):sF W {} 66 [.str a,.str b] [] 100000 [aE 2,bf,bf,bf,bf,ee] []=.ok (.ret (iA 0) [],[ee],[(!(Op.bytesLess a b || decide (a=b)))=false,Op.bytesLess a b=false,(!decide (b=b))=false,(!decide (a=a))=false]):=kr
theorem p120_0 (W:World) (h:JH) (l:List JV):sF W {} 64 [eV h l] [] 100000 [bt,ee] []=.ok (.ret (iA 0) [],[ee],[decide (h.kind=0)=true]):=kr
theorem p120_1 (W:World) (h:JH) (l:List JV):sF W {} 64 [eV h l] [] 100000 [bf,bt,ee] []=.ok (.ret (iA 1) [],[ee],[decide (h.kind=3)=true,decide (h.kind=0)=false]):=kr
theorem p120_2 (W:World) (h:JH) (l:List JV):sF W {} 64 [eV h l] [] 100000 [bf,bf,bt,ee] []=.ok (.ret (iA 2) [],[ee],[decide (h.kind=4)=true,decide (h.kind=3)=false,decide (h.kind=0)=false]):=kr
theorem p120_3 (W:World) (h:JH) (l:List JV):sF W {} 64 [eV h l] [] 100000 [bf,bf,bf,bt,ee] []=.ok (.ret (iA 3) [],[ee],[decide (h.kind=6)=true,decide (h.kind=4)=false,decide (h.kind=3)=false,decide (h.kind=0)=false]):=kr
theorem p120_4 (W:World) (h:JH) (l:List JV):sF W {} 64 [eV h l] [] 100000 [bf,bf,bf,bf,bt,ee] []=.ok (.ret (iA 4) [],[ee],[decide (h.kind=5)=true,decide (h.kind=6)=false,decide (h.kind=4)=false,decide (h.kind=3)=false,decide (h.kind=0)=false]):=kr
theorem p120_5 (W:World) (h:JH) (l:List JV):sF W {} 64 [eV h l] [] 100000 [bf,bf,bf,bf,bf,bt,ee] []=.ok (.ret (iA 5) [],[ee],[decide (h.kind=1)=true,decide (h.kind=5)=false,decide (h.kind=6)=false,decide (h.kind=4)=false,decide (h.kind=3)=false,decide (h.kind=0)=false]):=kr
theorem p120_6 (W:World) (h:JH) (l:List JV):sF W {} 64 [eV h l] [] 100000 [bf,bf,bf,bf,bf,bf,bt,ee] []=.ok (.ret (iA 6) [],[ee],[decide (h.kind=2)=true,decide (h.kind=1)=false,decide (h.kind=5)=false,decide (h.kind=6)=false,decide (h.kind=4)=false,decide (h.kind=3)=false,decide (h.kind=0)=false]):=kr
theorem p120_7 (W:World) (h:JH) (l:List JV):sF W {} 64 [eV h l] [] 100000 [bf,bf,bf,bf,bf,bf,bf,ee] []=.ok (.ret (iA (-1)) [],[ee],[decide (h.kind=2)=false,decide (h.kind=1)=false,decide (h.kind=5)=false,decide (h.kind=6)=false,decide (h.kind=4)=false,decide (h.kind=3)=false,decide (h.kind=0)=false]):=kr
theorem p127_0 (W:World) (h:JH) (l:List JV):sF W {} 71 [eV h l] [] 100000 [bt,ee] []=.ok (.ret (iA 0) [],[ee],[decide (h.kind=0)=true]):=kr
theorem p127_1 (W:World) (h:JH) (l:List JV):sF W {} 71 [eV h l] [] 100000 [bf,bt,ee] []=.ok (.ret (iA 1) [],[ee],[decide (h.kind=3)=true,decide (h.kind=0)=false]):=kr
theorem p127_2 (W:World) (h:JH) (l:List JV):sF W {} 71 [eV h l] [] 100000 [bf,bf,bt,ee] []=.ok (.ret (iA 2) [],[ee],[decide (h.kind=4)=true,decide (h.kind=3)=false,decide (h.kind=0)=false]):=kr
theorem p127_3 (W:World) (h:JH) (l:List JV):sF W {} 71 [eV h l] [] 100000 [bf,bf,bf,bt,ee] []=.ok (.ret (iA 3) [],[ee],[decide (h.kind=6)=true,decide (h.kind=4)=false,decide (h.kind=3)=false,decide (h.kind=0)=false]):=kr
theorem p127_4 (W:World) (h:JH) (l:List JV):sF W {} 71 [eV h l] [] 100000 [bf,bf,bf,bf,bt,ee] []=.ok (.ret (iA 4) [],[ee],[decide (h.kind=5)=true,decide (h.kind=6)=false,decide (h.kind=4)=false,decide (h.kind=3)=false,decide (h.kind=0)=false]):=kr
theorem p127_5 (W:World) (h:JH) (l:List JV):sF W {} 71 [eV h l] [] 100000 [bf,bf,bf,bf,bf,bt,ee] []=.ok (.ret (iA 5) [],[ee],[decide (h.kind=1)=true,decide (h.kind=5)=false,decide (h.kind=6)=false,decide (h.kind=4)=false,decide (h.kind=3)=false,decide (h.kind=0)=false]):=kr
theorem p127_6 (W:World) (h:JH) (l:List JV):sF W {} 71 [eV h l] [] 100000 [bf,bf,bf,bf,bf,bf,bt,ee] []=.ok (.ret (iA 6) [],[ee],[decide (h.kind=2)=true,decide (h.kind=1)=false,decide (h.kind=5)=false,decide (h.kind=6)=false,decide (h.kind=4)=false,decide (h.kind=3)=false,decide (h.kind=0)=false]):=kr
theorem p127_7 (W:World) (h:JH) (l:List JV):sF W {} 71 [eV h l] [] 100000 [bf,bf,bf,bf,bf,bf,bf,ee] []=.ok (.ret (iA (-1)) [],[ee],[decide (h.kind=2)=false,decide (h.kind=1)=false,decide (h.kind=5)=false,decide (h.kind=6)=false,decide (h.kind=4)=false,decide (h.kind=3)=false,decide (h.kind=0)=false]):=kr
theorem p158_0 (W:World) (h:JH) (l:List JV):sF W {} 94 [eV h l] [] 100000 [bt,bt,bt,bt,bt,bt,bt,bt,bt,ee] []=.ok (.ret (iA (↑(List.map AV.str h.names).length:Int)) [],[ee],(decide ((↑(List.map AV.str h.names).length:Int)<(↑(encVs l).length:Int))=true)::(d2 (decide (h.kind=6)=true) (d6 (decide (h.kind=6)=true) []))):=kr
theorem p158_1 (W:World) (h:JH) (l:List JV):sF W {} 94 [eV h l] [] 100000 [bt,bt,bt,bt,bt,bt,bt,bt,bf,ee] []=.ok (.ret (iA (↑(encVs l).length:Int)) [],[ee],(decide ((↑(List.map AV.str h.names).length:Int)<(↑(encVs l).length:Int))=false)::(d2 (decide (h.kind=6)=true) (d6 (decide (h.kind=6)=true) []))):=kr
theorem p158_2 (W:World) (h:JH) (l:List JV):sF W {} 94 [eV h l] [] 100000 [bf,bf,bf,bf,bf,bf,bf,bf,ee] []=.ok (.ret (iA (↑(encVs l).length:Int)) [],[aE 9999999],d2 (decide (h.kind=6)=false) (d6 (decide (h.kind=6)=false) [])):=kr
theorem p81_0 (W:World) (h:JH) (l:List JV) (h2:JH) (l2:List JV) (c:Int):sF W {lp:=true,tl:=[64,63,65,66,67,68]} 36 [eV h l,eV h2 l2] [] 100000 [ee,cR (iA (rankV h.kind)) [],ee,cR (iA (rankV h2.kind)) [],ee,cR (iA c) [],bt,ee] []=.ok (.ret (iA c) [],[ee],[(!decide (c=0))=true,MZ W 63 [iA (rankV h.kind),iA (rankV h2.kind)] [] (.ret (iA c) []),MZ W 64 [eV h2 l2] [] (.ret (iA (rankV h2.kind)) []),MZ W 64 [eV h l] [] (.ret (iA (rankV h.kind)) [])]):=kr
theorem p81_1 (W:World) (h:JH) (l:List JV) (h2:JH) (l2:List JV) (c d:Int):sF W {lp:=true,tl:=[64,63,65,66,67,68]} 36 [eV h l,eV h2 l2] [] 100000 [ee,cR (iA (rankV h.kind)) [],ee,cR (iA (rankV h2.kind)) [],ee,cR (iA c) [],bf,bt,ee,cR (iA d) [],ee] []=.ok (.ret (iA d) [],[ee],[MZ W 65 [iA h.int,iA h2.int] [] (.ret (iA d) []),decide (h.kind=3)=true,(!decide (c=0))=false,MZ W 63 [iA (rankV h.kind),iA (rankV h2.kind)] [] (.ret (iA c) []),MZ W 64 [eV h2 l2] [] (.ret (iA (rankV h2.kind)) []),MZ W 64 [eV h l] [] (.ret (iA (rankV h.kind)) [])]):=kr
theorem p81_2 (W:World) (h:JH) (l:List JV) (h2:JH) (l2:List JV) (c d:Int):sF W {lp:=true,tl:=[64,63,65,66,67,68]} 36 [eV h l,eV h2 l2] [] 100000 [ee,cR (iA (rankV h.kind)) [],ee,cR (iA (rankV h2.kind)) [],ee,cR (iA c) [],bf,bf,bt,ee,cR (iA d) [],ee] []=.ok (.ret (iA d) [],[ee],[MZ W 66 [.str h.3,.str h2.3] [] (.ret (iA d) []),decide (h.kind=4)=true,decide (h.kind=3)=false,(!decide (c=0))=false,MZ W 63 [iA (rankV h.kind),iA (rankV h2.kind)] [] (.ret (iA c) []),MZ W 64 [eV h2 l2] [] (.ret (iA (rankV h2.kind)) []),MZ W 64 [eV h l] [] (.ret (iA (rankV h.kind)) [])]):=kr
theorem p81_3 (W:World) (h:JH) (l:List JV) (h2:JH) (l2:List JV) (c d:Int):sF W {lp:=true,tl:=[64,63,65,66,67,68]} 36 [eV h l,eV h2 l2] [] 100000 [ee,cR (iA (rankV h.kind)) [],ee,cR (iA (rankV h2.kind)) [],ee,cR (iA c) [],bf,bf,bf,bt,ee,cR (iA d) [],ee] []=.ok (.ret (iA d) [],[ee],[MZ W 67 [sL 5 (encVs l),sL 5 (encVs l2),.val (Value.func (Fn.func 36) #[] #[])] [] (.ret (iA d) []),decide (h.kind=5)=true,decide (h.kind=4)=false,decide (h.kind=3)=false,(!decide (c=0))=false,MZ W 63 [iA (rankV h.kind),iA (rankV h2.kind)] [] (.ret (iA c) []),MZ W 64 [eV h2 l2] [] (.ret (iA (rankV h2.kind)) []),MZ W 64 [eV h l] [] (.ret (iA (rankV h.kind)) [])]):=kr
theorem p81_4 (W:World) (h:JH) (l:List JV) (h2:JH) (l2:List JV) (c d:Int):sF W {lp:=true,tl:=[64,63,65,66,67,68]} 36 [eV h l,eV h2 l2] [] 100000 [ee,cR (iA (rankV h.kind)) [],ee,cR (iA (rankV h2.kind)) [],ee,cR (iA c) [],bf,bf,bf,bf,bt,ee,cR (iA d) [],ee] []=.ok (.ret (iA d) [],[ee],[MZ W 68 [eV h l,eV h2 l2] [] (.ret (iA d) []),decide (h.kind=6)=true,decide (h.kind=5)=false,decide (h.kind=4)=false,decide (h.kind=3)=false,(!decide (c=0))=false,MZ W 63 [iA (rankV h.kind),iA (rankV h2.kind)] [] (.ret (iA c) []),MZ W 64 [eV h2 l2] [] (.ret (iA (rankV h2.kind)) []),MZ W 64 [eV h l] [] (.ret (iA (rankV h.kind)) [])]):=kr
theorem p81_5 (W:World) (h:JH) (l:List JV) (h2:JH) (l2:List JV) (c:Int):sF W {lp:=true,tl:=[64,63,65,66,67,68]} 36 [eV h l,eV h2 l2] [] 100000 [ee,cR (iA (rankV h.kind)) [],ee,cR (iA (rankV h2.kind)) [],ee,cR (iA c) [],bf,bf,bf,bf,bf,ee] []=.ok (.ret (iA 0) [],[ee],[decide (h.kind=6)=false,decide (h.kind=5)=false,decide (h.kind=4)=false,decide (h.kind=3)=false,(!decide (c=0))=false,MZ W 63 [iA (rankV h.kind),iA (rankV h2.kind)] [] (.ret (iA c) []),MZ W 64 [eV h2 l2] [] (.ret (iA (rankV h2.kind)) []),MZ W 64 [eV h l] [] (.ret (iA (rankV h.kind)) [])]):=kr
theorem p83_0 (W:World) (h:JH) (l:List JV) (h2:JH) (l2:List JV) (c:Int):sF W {lp:=true,tl:=[70,71,72,73]} 38 [eV h l,eV h2 l2] [] 100000 [ee,cR (iA (rankV h.kind)) [],ee,cR (iA (rankV h2.kind)) [],ee,cR (iA c) [],bt,ee] []=.ok (.ret (iA c) [],[ee],[(!decide (c=0))=true,MZ W 70 [iA (rankV h.kind),iA (rankV h2.kind)] [] (.ret (iA c) []),MZ W 71 [eV h2 l2] [] (.ret (iA (rankV h2.kind)) []),MZ W 71 [eV h l] [] (.ret (iA (rankV h.kind)) [])]):=kr
theorem p83_1 (W:World) (h:JH) (l:List JV) (h2:JH) (l2:List JV) (c d:Int):sF W {lp:=true,tl:=[70,71,72,73]} 38 [eV h l,eV h2 l2] [] 100000 [ee,cR (iA (rankV h.kind)) [],ee,cR (iA (rankV h2.kind)) [],ee,cR (iA c) [],bf,bt,ee,cR (iA d) [],ee] []=.ok (.ret (iA d) [],[ee],[MZ W 70 [iA h.int,iA h2.int] [] (.ret (iA d) []),decide (h.kind=3)=true,(!decide (c=0))=false,MZ W 70 [iA (rankV h.kind),iA (rankV h2.kind)] [] (.ret (iA c) []),MZ W 71 [eV h2 l2] [] (.ret (iA (rankV h2.kind)) []),MZ W 71 [eV h l] [] (.ret (iA (rankV h.kind)) [])]):=kr
theorem p83_2 (W:World) (h:JH) (l:List JV) (h2:JH) (l2:List JV) (c d:Int):sF W {lp:=true,tl:=[70,71,72,73]} 38 [eV h l,eV h2 l2] [] 100000 [ee,cR (iA (rankV h.kind)) [],ee,cR (iA (rankV h2.kind)) [],ee,cR (iA c) [],bf,bf,bt,ee,cR (iA d) [],ee] []=.ok (.ret (iA d) [],[ee],[MZ W 72 [.str h.3,.str h2.3] [] (.ret (iA d) []),decide (h.kind=4)=true,decide (h.kind=3)=false,(!decide (c=0))=false,MZ W 70 [iA (rankV h.kind),iA (rankV h2.kind)] [] (.ret (iA c) []),MZ W 71 [eV h2 l2] [] (.ret (iA (rankV h2.kind)) []),MZ W 71 [eV h l] [] (.ret (iA (rankV h.kind)) [])]):=kr
theorem p83_3 (W:World) (h:JH) (l:List JV) (h2:JH) (l2:List JV) (c d:Int):sF W {lp:=true,tl:=[70,71,72,73]} 38 [eV h l,eV h2 l2] [] 100000 [ee,cR (iA (rankV h.kind)) [],ee,cR (iA (rankV h2.kind)) [],ee,cR (iA c) [],bf,bf,bf,bt,bt,ee,cR (iA d) [],ee] []=.ok (.ret (iA d) [],[ee],MZ W 73 [eV h l,eV h2 l2] [] (.ret (iA d) [])::(d2 (decide (h.kind=5)=true) [decide (h.kind=4)=false,decide (h.kind=3)=false,(!decide (c=0))=false,MZ W 70 [iA (rankV h.kind),iA (rankV h2.kind)] [] (.ret (iA c) []),MZ W 71 [eV h2 l2] [] (.ret (iA (rankV h2.kind)) []),MZ W 71 [eV h l] [] (.ret (iA (rankV h.kind)) [])])):=kr
theorem p83_4 (W:World) (h:JH) (l:List JV) (h2:JH) (l2:List JV) (c d:Int):sF W {lp:=true,tl:=[70,71,72,73]} 38 [eV h l,eV h2 l2] [] 100000 [ee,cR (iA (rankV h.kind)) [],ee,cR (iA (rankV h2.kind)) [],ee,cR (iA c) [],bf,bf,bf,bf,bt,ee,cR (iA d) [],ee] []=.ok (.ret (iA d) [],[ee],[MZ W 73 [eV h l,eV h2 l2] [] (.ret (iA d) []),decide (h.kind=6)=true,decide (h.kind=5)=false,decide (h.kind=4)=false,decide (h.kind=3)=false,(!decide (c=0))=false,MZ W 70 [iA (rankV h.kind),iA (rankV h2.kind)] [] (.ret (iA c) []),MZ W 71 [eV h2 l2] [] (.ret (iA (rankV h2.kind)) []),MZ W 71 [eV h l] [] (.ret (iA (rankV h.kind)) [])]):=kr
theorem p83_5 (W:World) (h:JH) (l:List JV) (h2:JH) (l2:List JV) (c:Int):sF W {lp:=true,tl:=[70,71,72,73]} 38 [eV h l,eV h2 l2] [] 100000 [ee,cR (iA (rankV h.kind)) [],ee,cR (iA (rankV h2.kind)) [],ee,cR (iA c) [],bf,bf,bf,bf,bf,ee] []=.ok (.ret (iA 0) [],[ee],[decide (h.kind=6)=false,decide (h.kind=5)=false,decide (h.kind=4)=false,decide (h.kind=3)=false,(!decide (c=0))=false,MZ W 70 [iA (rankV h.kind),iA (rankV h2.kind)] [] (.ret (iA c) []),MZ W 71 [eV h2 l2] [] (.ret (iA (rankV h2.kind)) []),MZ W 71 [eV h l] [] (.ret (iA (rankV h.kind)) [])]):=kr
theorem b123_0 (W:World) (a b:List JV) (i:Nat) (h:JH) (l:List JV):sbodyM Tryz.prog W {lp:=true,tl:=[36]} 67 0 [] (S123 a b i) [bt,aE 1,oS (eV h l),bt,ee]=.ok ((.ret,{t:=[(0,sL 5 (encVs a)),(1,sL 5 (encVs b)),(2,.val (Value.func (Fn.func 36) #[] #[])),(6,iA 1),(7,iA (i:Int)),(8,.gp 100000 0),(11,sL 5 (encVs a)),(12,iA (a.length:Int)),(13,iA (i:Int)),(14,bA (decide ((i:Int)<(a.length:Int)))),(15,iA (i:Int)),(16,(eV h l).ip 0),(17,eV h l),(18,iA (i:Int)),(19,sL 5 (encVs b)),(20,iA (↑(encVs b).length:Int)),(21,bA (decide ((↑(encVs b).length:Int)<=(i:Int))))],h:=[(100000,gB (eV h l))]}),[ee],[decide ((↑(encVs b).length:Int)<=(i:Int))=true,(encVs a)[(i:Int).toNat]?=some (eV h l),decide ((i:Int)<(a.length:Int))=true]):=kr
theorem b123_1 (W:World) (a b:List JV) (i:Nat) (h:JH) (l:List JV) (h2:JH) (l2:List JV) (d:Int):sbodyM Tryz.prog W {lp:=true,tl:=[36]} 67 0 [] (S123 a b i) [bt,aE 1,oS (eV h l),bf,aE 1,oS (eV h2 l2),ee,cR (iA d) [],bt,ee]=.ok ((.ret,{t:=[(0,sL 5 (encVs a)),(1,sL 5 (encVs b)),(2,.val (Value.func (Fn.func 36) #[] #[])),(6,iA d),(7,iA (i:Int)),(8,.gp 100000 0),(9,.gp 100001 0),(10,iA d),(11,sL 5 (encVs a)),(12,iA (a.length:Int)),(13,iA (i:Int)),(14,bA (decide ((i:Int)<(a.length:Int)))),(15,iA (i:Int)),(16,(eV h l).ip 0),(17,eV h l),(18,iA (i:Int)),(19,sL 5 (encVs b)),(20,iA (↑(encVs b).length:Int)),(21,bA (decide ((↑(encVs b).length:Int)<=(i:Int)))),(22,sL 5 (encVs b)),(23,iA (i:Int)),(24,(eV h2 l2).ip 0),(25,eV h2 l2),(26,.val (Value.func (Fn.func 36) #[] #[])),(27,eV h l),(28,eV h2 l2),(29,iA d),(30,iA d),(31,bA (!decide (d=0))),(32,iA d)],h:=[(100000,gB (eV h l)),(100001,gB (eV h2 l2))]}),[ee],[(!decide (d=0))=true,MZ W 36 [eV h l,eV h2 l2] [] (.ret (iA d) []),(encVs b)[(i:Int).toNat]?=some (eV h2 l2),decide ((↑(encVs b).length:Int)<=(i:Int))=false,(encVs a)[(i:Int).toNat]?=some (eV h l),decide ((i:Int)<(a.length:Int))=true]):=kr
theorem b123_2 (W:World) (a b:List JV) (i:Nat) (h:JH) (l:List JV) (h2:JH) (l2:List JV) (d:Int):sQ W {lp:=true,tl:=[36]} 67 0 [] [0,1,2,11,12,13] (S123 a b i) [bt,aE 1,oS (eV h l),bf,aE 1,oS (eV h2 l2),ee,cR (iA d) [],bf,ee]=.ok ((.normal,{t:=[(0,sL 5 (encVs a)),(1,sL 5 (encVs b)),(2,.val (Value.func (Fn.func 36) #[] #[])),(11,sL 5 (encVs a)),(12,iA (a.length:Int)),(13,iA (IntKind.i64.wrap ((i:Int)+1)))],h:=[(100000,gB (eV h l)),(100001,gB (eV h2 l2))]}),[ee],[(!decide (d=0))=false,MZ W 36 [eV h l,eV h2 l2] [] (.ret (iA d) []),(encVs b)[(i:Int).toNat]?=some (eV h2 l2),decide ((↑(encVs b).length:Int)<=(i:Int))=false,(encVs a)[(i:Int).toNat]?=some (eV h l),decide ((i:Int)<(a.length:Int))=true]):=kr
theorem b123_3 (W:World) (a b:List JV) (i:Nat) (h:JH):sbodyM Tryz.prog W {lp:=true,tl:=[36]} 67 0 [] (S123 a b i) [bf,ee]=.ok ((.exit 0,{t:=[(0,sL 5 (encVs a)),(1,sL 5 (encVs b)),(2,.val (Value.func (Fn.func 36) #[] #[])),(11,sL 5 (encVs a)),(12,iA (a.length:Int)),(13,iA (i:Int)),(14,bA (decide ((i:Int)<(a.length:Int))))],h:=[]}),[ee],[decide ((i:Int)<(a.length:Int))=false]):=kr
theorem p123_0 (W:World) (a b:List JV) (d:Int):sF W {lp:=true} 67 [.sl 5 (encVs a) [],.sl 5 (encVs b) [],.val (.func (.func 36) #[] #[])] [] 100000 [ee,.loopM [] [] (S123 a b 0) .ret (Rv 6 d),ee] []=.ok (.ret (iA d) [],[ee],[LZ W [] 67 0 (S123 a b 0) .ret (Rv 6 d),MatchK [] [] [] {t:=[(0,sL 5 (encVs a)),(1,sL 5 (encVs b)),(2,.val (Value.func (Fn.func 36) #[] #[])),(11,sL 5 (encVs a)),(12,iA (↑(encVs a).length:Int)),(13,iA 0)],h:=[]} (S123 a b 0)]):=kr
theorem q123_0 (W:World) (a b:List JV):sF W {lp:=true} 67 [.sl 5 (encVs a) [],.sl 5 (encVs b) [],.val (.func (.func 36) #[] #[])] [] 100000 [ee,.loopM [] [] (S123 a b 0) (.exit 0) (E123 a b),bt,ee] []=.ok (.ret (iA (-1)) [],[ee],[decide ((↑(encVs a).length:Int)<(↑(encVs b).length:Int))=true,LZ W [] 67 0 (S123 a b 0) (.exit 0) (E123 a b),MatchK [] [] [] {t:=[(0,sL 5 (encVs a)),(1,sL 5 (encVs b)),(2,.val (Value.func (Fn.func 36) #[] #[])),(11,sL 5 (encVs a)),(12,iA (↑(encVs a).length:Int)),(13,iA 0)],h:=[]} (S123 a b 0)]):=kr
theorem q123_1 (W:World) (a b:List JV):sF W {lp:=true} 67 [.sl 5 (encVs a) [],.sl 5 (encVs b) [],.val (.func (.func 36) #[] #[])] [] 100000 [ee,.loopM [] [] (S123 a b 0) (.exit 0) (E123 a b),bf,ee] []=.ok (.ret (iA 0) [],[ee],[decide ((↑(encVs a).length:Int)<(↑(encVs b).length:Int))=false,LZ W [] 67 0 (S123 a b 0) (.exit 0) (E123 a b),MatchK [] [] [] {t:=[(0,sL 5 (encVs a)),(1,sL 5 (encVs b)),(2,.val (Value.func (Fn.func 36) #[] #[])),(11,sL 5 (encVs a)),(12,iA (↑(encVs a).length:Int)),(13,iA 0)],h:=[]} (S123 a b 0)]):=kr
theorem b124_0 (W:World) (h:JH) (l:List JV) (h2:JH) (l2:List JV) (n m k i:Nat) (x y:List UInt8) (c:Int):sbodyM Tryz.prog W {lp:=true,tl:=[66,36]} 68 0 [] (S124 h l h2 l2 n m k i) [bt,aE 1,oS (.str x),aE 1,oS (.str y),ee,cR (iA c) [],bt,ee]=.ok ((.ret,{t:=[(2,.gp 100000 0),(3,.gp 100001 0),(4,iA c),(5,iA (n:Int)),(6,iA (m:Int)),(7,iA (i:Int)),(8,iA c),(26,iA (k:Int)),(27,iA (i:Int)),(28,bA (decide ((i:Int)<(k:Int)))),(29,iA (i:Int)),(30,.gp 100000 3),(31,sL 1 (List.map AV.str h.names)),(32,iA (i:Int)),(33,(AV.str x).ip 0),(34,.str x),(35,.gp 100001 3),(36,sL 1 (List.map AV.str h2.names)),(37,iA (i:Int)),(38,(AV.str y).ip 0),(39,.str y),(40,iA c),(41,iA c),(42,bA (!decide (c=0))),(43,iA c)],h:=[(100000,gB (eV h l)),(100001,gB (eV h2 l2))]}),[ee],[(!decide (c=0))=true,MZ W 66 [.str x,.str y] [] (.ret (iA c) []),(List.map AV.str h2.names)[(i:Int).toNat]?=some (AV.str y),(List.map AV.str h.names)[(i:Int).toNat]?=some (AV.str x),decide ((i:Int)<(k:Int))=true]):=kr
theorem b124_1 (W:World) (h:JH) (l:List JV) (h2:JH) (l2:List JV) (n m k i:Nat) (x y:List UInt8) (h3:JH) (l3:List JV) (h4:JH) (l4:List JV) (c d:Int):sbodyM Tryz.prog W {lp:=true,tl:=[66,36]} 68 0 [] (S124 h l h2 l2 n m k i) [bt,aE 1,oS (.str x),aE 1,oS (.str y),ee,cR (iA c) [],bf,aE 1,oS (eV h3 l3),aE 1,oS (eV h4 l4),ee,cR (iA d) [],bt,ee]=.ok ((.ret,{t:=[(2,.gp 100000 0),(3,.gp 100001 0),(4,iA d),(5,iA (n:Int)),(6,iA (m:Int)),(7,iA (i:Int)),(8,iA c),(9,iA d),(26,iA (k:Int)),(27,iA (i:Int)),(28,bA (decide ((i:Int)<(k:Int)))),(29,iA (i:Int)),(30,.gp 100000 3),(31,sL 1 (List.map AV.str h.names)),(32,iA (i:Int)),(33,(AV.str x).ip 0),(34,.str x),(35,.gp 100001 3),(36,sL 1 (List.map AV.str h2.names)),(37,iA (i:Int)),(38,(AV.str y).ip 0),(39,.str y),(40,iA c),(41,iA c),(42,bA (!decide (c=0))),(44,.gp 100000 4),(45,sL 5 (encVs l)),(46,iA (i:Int)),(47,(eV h3 l3).ip 0),(48,eV h3 l3),(49,.gp 100001 4),(50,sL 5 (encVs l2)),(51,iA (i:Int)),(52,(eV h4 l4).ip 0),(53,eV h4 l4),(54,iA d),(55,iA d),(56,bA (!decide (d=0))),(57,iA d)],h:=[(100000,gB (eV h l)),(100001,gB (eV h2 l2))]}),[ee],[(!decide (d=0))=true,MZ W 36 [eV h3 l3,eV h4 l4] [] (.ret (iA d) []),(encVs l2)[(i:Int).toNat]?=some (eV h4 l4),(encVs l)[(i:Int).toNat]?=some (eV h3 l3),(!decide (c=0))=false,MZ W 66 [.str x,.str y] [] (.ret (iA c) []),(List.map AV.str h2.names)[(i:Int).toNat]?=some (AV.str y),(List.map AV.str h.names)[(i:Int).toNat]?=some (AV.str x),decide ((i:Int)<(k:Int))=true]):=kr
theorem b124_2 (W:World) (h:JH) (l:List JV) (h2:JH) (l2:List JV) (n m k i:Nat) (x y:List UInt8) (h3:JH) (l3:List JV) (h4:JH) (l4:List JV) (c d:Int):sQ W {lp:=true,tl:=[66,36]} 68 0 [] [2,3,5,6,26,27] (S124 h l h2 l2 n m k i) [bt,aE 1,oS (.str x),aE 1,oS (.str y),ee,cR (iA c) [],bf,aE 1,oS (eV h3 l3),aE 1,oS (eV h4 l4),ee,cR (iA d) [],bf,ee]=.ok ((.normal,{t:=[(2,.gp 100000 0),(3,.gp 100001 0),(5,iA (n:Int)),(6,iA (m:Int)),(26,iA (k:Int)),(27,iA (IntKind.i64.wrap ((i:Int)+1)))],h:=[(100000,gB (eV h l)),(100001,gB (eV h2 l2))]}),[ee],[(!decide (d=0))=false,MZ W 36 [eV h3 l3,eV h4 l4] [] (.ret (iA d) []),(encVs l2)[(i:Int).toNat]?=some (eV h4 l4),(encVs l)[(i:Int).toNat]?=some (eV h3 l3),(!decide (c=0))=false,MZ W 66 [.str x,.str y] [] (.ret (iA c) []),(List.map AV.str h2.names)[(i:Int).toNat]?=some (AV.str y),(List.map AV.str h.names)[(i:Int).toNat]?=some (AV.str x),decide ((i:Int)<(k:Int))=true]):=kr
theorem b124_3 (W:World) (h:JH) (l:List JV) (h2:JH) (l2:List JV) (n m k i:Nat):sbodyM Tryz.prog W {lp:=true,tl:=[66,36]} 68 0 [] (S124 h l h2 l2 n m k i) [bf,ee]=.ok ((.exit 0,{t:=[(2,.gp 100000 0),(3,.gp 100001 0),(5,iA (n:Int)),(6,iA (m:Int)),(26,iA (k:Int)),(27,iA (i:Int)),(28,bA (decide ((i:Int)<(k:Int))))],h:=[(100000,gB (eV h l)),(100001,gB (eV h2 l2))]}),[ee],[decide ((i:Int)<(k:Int))=false]):=kr
theorem b129_0 (W:World) (h:JH) (l:List JV) (h2:JH) (l2:List JV) (n m i:Nat) (x y:List UInt8) (c:Int):sbodyM Tryz.prog W {lp:=true,tl:=[72,38]} 73 0 [] (S129 h l h2 l2 n m i) [bt,bt,bt,bt,bt,bt,aE 1,oS (.str x),aE 1,oS (.str y),ee,cR (iA c) [],bt,ee]=.ok ((.ret,{t:=[(2,.gp 100000 0),(3,.gp 100001 0),(4,iA c),(5,iA (n:Int)),(6,iA (m:Int)),(7,iA (i:Int)),(8,iA c),(14,iA (i:Int)),(15,iA (n:Int)),(16,bA (decide ((i:Int)<(n:Int)))),(17,bA (decide ((i:Int)<(n:Int)))),(18,iA (i:Int)),(19,iA (m:Int)),(20,bA (decide ((i:Int)<(m:Int)))),(21,bA (decide ((i:Int)<(m:Int)))),(24,.gp 100000 0),(25,iA h.kind),(26,bA (decide (h.kind=6))),(27,.gp 100000 3),(28,sL 1 (List.map AV.str h.names)),(29,iA (i:Int)),(30,(AV.str x).ip 0),(31,.str x),(32,.gp 100001 3),(33,sL 1 (List.map AV.str h2.names)),(34,iA (i:Int)),(35,(AV.str y).ip 0),(36,.str y),(37,iA c),(38,iA c),(39,bA (!decide (c=0))),(40,iA c)],h:=[(100000,gB (eV h l)),(100001,gB (eV h2 l2))]}),[ee],((!decide (c=0))=true)::MZ W 72 [.str x,.str y] [] (.ret (iA c) [])::((List.map AV.str h2.names)[(i:Int).toNat]?=some (AV.str y))::((List.map AV.str h.names)[(i:Int).toNat]?=some (AV.str x))::(decide (h.kind=6)=true)::(decide ((i:Int)<(m:Int))=true)::(d4 (decide ((i:Int)<(n:Int))=true) [])):=kr
theorem b129_1 (W:World) (h:JH) (l:List JV) (h2:JH) (l2:List JV) (n m i:Nat) (x y:List UInt8) (h3:JH) (l3:List JV) (h4:JH) (l4:List JV) (c d:Int):sbodyM Tryz.prog W {lp:=true,tl:=[72,38]} 73 0 [] (S129 h l h2 l2 n m i) [bt,bt,bt,bt,bt,bt,aE 1,oS (.str x),aE 1,oS (.str y),ee,cR (iA c) [],bf,aE 1,oS (eV h3 l3),aE 1,oS (eV h4 l4),ee,cR (iA d) [],bt,ee]=.ok ((.ret,{t:=[(2,.gp 100000 0),(3,.gp 100001 0),(4,iA d),(5,iA (n:Int)),(6,iA (m:Int)),(7,iA (i:Int)),(8,iA c),(9,iA d),(14,iA (i:Int)),(15,iA (n:Int)),(16,bA (decide ((i:Int)<(n:Int)))),(17,bA (decide ((i:Int)<(n:Int)))),(18,iA (i:Int)),(19,iA (m:Int)),(20,bA (decide ((i:Int)<(m:Int)))),(21,bA (decide ((i:Int)<(m:Int)))),(24,.gp 100000 0),(25,iA h.kind),(26,bA (decide (h.kind=6))),(27,.gp 100000 3),(28,sL 1 (List.map AV.str h.names)),(29,iA (i:Int)),(30,(AV.str x).ip 0),(31,.str x),(32,.gp 100001 3),(33,sL 1 (List.map AV.str h2.names)),(34,iA (i:Int)),(35,(AV.str y).ip 0),(36,.str y),(37,iA c),(38,iA c),(39,bA (!decide (c=0))),(41,.gp 100000 4),(42,sL 5 (encVs l)),(43,iA (i:Int)),(44,(eV h3 l3).ip 0),(45,eV h3 l3),(46,.gp 100001 4),(47,sL 5 (encVs l2)),(48,iA (i:Int)),(49,(eV h4 l4).ip 0),(50,eV h4 l4),(51,iA d),(52,iA d),(53,bA (!decide (d=0))),(54,iA d)],h:=[(100000,gB (eV h l)),(100001,gB (eV h2 l2))]}),[ee],((!decide (d=0))=true)::MZ W 38 [eV h3 l3,eV h4 l4] [] (.ret (iA d) [])::((encVs l2)[(i:Int).toNat]?=some (eV h4 l4))::((encVs l)[(i:Int).toNat]?=some (eV h3 l3))::((!decide (c=0))=false)::MZ W 72 [.str x,.str y] [] (.ret (iA c) [])::((List.map AV.str h2.names)[(i:Int).toNat]?=some (AV.str y))::((List.map AV.str h.names)[(i:Int).toNat]?=some (AV.str x))::(decide (h.kind=6)=true)::(decide ((i:Int)<(m:Int))=true)::(d4 (decide ((i:Int)<(n:Int))=true) [])):=kr
theorem b129_2 (W:World) (h:JH) (l:List JV) (h2:JH) (l2:List JV) (n m i:Nat) (x y:List UInt8) (h3:JH) (l3:List JV) (h4:JH) (l4:List JV) (c d:Int):sQ W {lp:=true,tl:=[72,38]} 73 0 [] [2,3,5,6,7] (S129 h l h2 l2 n m i) [bt,bt,bt,bt,bt,bt,aE 1,oS (.str x),aE 1,oS (.str y),ee,cR (iA c) [],bf,aE 1,oS (eV h3 l3),aE 1,oS (eV h4 l4),ee,cR (iA d) [],bf,ee]=.ok ((.normal,{t:=[(2,.gp 100000 0),(3,.gp 100001 0),(5,iA (n:Int)),(6,iA (m:Int)),(7,iA (IntKind.i64.wrap ((i:Int)+1)))],h:=[(100000,gB (eV h l)),(100001,gB (eV h2 l2))]}),[ee],((!decide (d=0))=false)::MZ W 38 [eV h3 l3,eV h4 l4] [] (.ret (iA d) [])::((encVs l2)[(i:Int).toNat]?=some (eV h4 l4))::((encVs l)[(i:Int).toNat]?=some (eV h3 l3))::((!decide (c=0))=false)::MZ W 72 [.str x,.str y] [] (.ret (iA c) [])::((List.map AV.str h2.names)[(i:Int).toNat]?=some (AV.str y))::((List.map AV.str h.names)[(i:Int).toNat]?=some (AV.str x))::(decide (h.kind=6)=true)::(decide ((i:Int)<(m:Int))=true)::(d4 (decide ((i:Int)<(n:Int))=true) [])):=kr
theorem b129_3 (W:World) (h:JH) (l:List JV) (h2:JH) (l2:List JV) (n m i:Nat):sbodyM Tryz.prog W {lp:=true,tl:=[72,38]} 73 0 [] (S129 h l h2 l2 n m i) [bt,bt,bt,bt,bf,ee]=.ok ((.exit 0,{t:=[(2,.gp 100000 0),(3,.gp 100001 0),(5,iA (n:Int)),(6,iA (m:Int)),(7,iA (i:Int)),(14,iA (i:Int)),(15,iA (n:Int)),(16,bA (decide ((i:Int)<(n:Int)))),(17,bA (decide ((i:Int)<(n:Int)))),(18,iA (i:Int)),(19,iA (m:Int)),(20,bA (decide ((i:Int)<(m:Int)))),(21,bA (decide ((i:Int)<(m:Int))))],h:=[(100000,gB (eV h l)),(100001,gB (eV h2 l2))]}),[ee],(decide ((i:Int)<(m:Int))=false)::(d4 (decide ((i:Int)<(n:Int))=true) [])):=kr
theorem b129_4 (W:World) (h:JH) (l:List JV) (h2:JH) (l2:List JV) (n m i:Nat):sbodyM Tryz.prog W {lp:=true,tl:=[72,38]} 73 0 [] (S129 h l h2 l2 n m i) [bf,bf,bf,bf,ee]=.ok ((.exit 0,{t:=[(2,.gp 100000 0),(3,.gp 100001 0),(5,iA (n:Int)),(6,iA (m:Int)),(7,iA (i:Int)),(14,iA (i:Int)),(15,iA (n:Int)),(16,bA (decide ((i:Int)<(n:Int)))),(17,bA (decide ((i:Int)<(n:Int)))),(18,.val (Value.tuple #[])),(19,.val (Value.tuple #[])),(20,.val (Value.tuple #[])),(21,bA false)],h:=[(100000,gB (eV h l)),(100001,gB (eV h2 l2))]}),[aE 9999999],d4 (decide ((i:Int)<(n:Int))=false) []):=kr
theorem c129_0 (W:World) (h:JH) (l:List JV) (h2:JH) (l2:List JV) (n m i:Nat) (h3:JH) (l3:List JV) (h4:JH) (l4:List JV) (d:Int):sbodyM Tryz.prog W {lp:=true,tl:=[72,38]} 73 0 [] (S129 h l h2 l2 n m i) [bt,bt,bt,bt,bt,bf,aE 1,oS (eV h3 l3),aE 1,oS (eV h4 l4),ee,cR (iA d) [],bt,ee]=.ok ((.ret,{t:=[(2,.gp 100000 0),(3,.gp 100001 0),(4,iA d),(5,iA (n:Int)),(6,iA (m:Int)),(7,iA (i:Int)),(9,iA d),(14,iA (i:Int)),(15,iA (n:Int)),(16,bA (decide ((i:Int)<(n:Int)))),(17,bA (decide ((i:Int)<(n:Int)))),(18,iA (i:Int)),(19,iA (m:Int)),(20,bA (decide ((i:Int)<(m:Int)))),(21,bA (decide ((i:Int)<(m:Int)))),(24,.gp 100000 0),(25,iA h.kind),(26,bA (decide (h.kind=6))),(41,.gp 100000 4),(42,sL 5 (encVs l)),(43,iA (i:Int)),(44,(eV h3 l3).ip 0),(45,eV h3 l3),(46,.gp 100001 4),(47,sL 5 (encVs l2)),(48,iA (i:Int)),(49,(eV h4 l4).ip 0),(50,eV h4 l4),(51,iA d),(52,iA d),(53,bA (!decide (d=0))),(54,iA d)],h:=[(100000,gB (eV h l)),(100001,gB (eV h2 l2))]}),[ee],((!decide (d=0))=true)::MZ W 38 [eV h3 l3,eV h4 l4] [] (.ret (iA d) [])::((encVs l2)[(i:Int).toNat]?=some (eV h4 l4))::((encVs l)[(i:Int).toNat]?=some (eV h3 l3))::(decide (h.kind=6)=false)::(decide ((i:Int)<(m:Int))=true)::(d4 (decide ((i:Int)<(n:Int))=true) [])):=kr
theorem c129_1 (W:World) (h:JH) (l:List JV) (h2:JH) (l2:List JV) (n m i:Nat) (h3:JH) (l3:List JV) (h4:JH) (l4:List JV) (d:Int):sQ W {lp:=true,tl:=[72,38]} 73 0 [] [2,3,5,6,7] (S129 h l h2 l2 n m i) [bt,bt,bt,bt,bt,bf,aE 1,oS (eV h3 l3),aE 1,oS (eV h4 l4),ee,cR (iA d) [],bf,ee]=.ok ((.normal,{t:=[(2,.gp 100000 0),(3,.gp 100001 0),(5,iA (n:Int)),(6,iA (m:Int)),(7,iA (IntKind.i64.wrap ((i:Int)+1)))],h:=[(100000,gB (eV h l)),(100001,gB (eV h2 l2))]}),[ee],((!decide (d=0))=false)::MZ W 38 [eV h3 l3,eV h4 l4] [] (.ret (iA d) [])::((encVs l2)[(i:Int).toNat]?=some (eV h4 l4))::((encVs l)[(i:Int).toNat]?=some (eV h3 l3))::(decide (h.kind=6)=false)::(decide ((i:Int)<(m:Int))=true)::(d4 (decide ((i:Int)<(n:Int))=true) [])):=kr
theorem c129_2 (W:World) (h:JH) (l:List JV) (h2:JH) (l2:List JV) (n m i:Nat):sbodyM Tryz.prog W {lp:=true,tl:=[72,38]} 73 0 [] (S129 h l h2 l2 n m i) [bt,bt,bt,bt,bf,ee]=.ok ((.exit 0,{t:=[(2,.gp 100000 0),(3,.gp 100001 0),(5,iA (n:Int)),(6,iA (m:Int)),(7,iA (i:Int)),(14,iA (i:Int)),(15,iA (n:Int)),(16,bA (decide ((i:Int)<(n:Int)))),(17,bA (decide ((i:Int)<(n:Int)))),(18,iA (i:Int)),(19,iA (m:Int)),(20,bA (decide ((i:Int)<(m:Int)))),(21,bA (decide ((i:Int)<(m:Int))))],h:=[(100000,gB (eV h l)),(100001,gB (eV h2 l2))]}),[ee],(decide ((i:Int)<(m:Int))=false)::(d4 (decide ((i:Int)<(n:Int))=true) [])):=kr
theorem c129_3 (W:World) (h:JH) (l:List JV) (h2:JH) (l2:List JV) (n m i:Nat):sbodyM Tryz.prog W {lp:=true,tl:=[72,38]} 73 0 [] (S129 h l h2 l2 n m i) [bf,bf,bf,bf,ee]=.ok ((.exit 0,{t:=[(2,.gp 100000 0),(3,.gp 100001 0),(5,iA (n:Int)),(6,iA (m:Int)),(7,iA (i:Int)),(14,iA (i:Int)),(15,iA (n:Int)),(16,bA (decide ((i:Int)<(n:Int)))),(17,bA (decide ((i:Int)<(n:Int)))),(18,.val (Value.tuple #[])),(19,.val (Value.tuple #[])),(20,.val (Value.tuple #[])),(21,bA false)],h:=[(100000,gB (eV h l)),(100001,gB (eV h2 l2))]}),[aE 9999999],d4 (decide ((i:Int)<(n:Int))=false) []):=kr
theorem p124_0 (W:World) (h:JH) (l:List JV) (h2:JH) (l2:List JV) (n m k:Nat) (d:Int):sF W {lp:=true,tl:=[63]} 68 [eV h l,eV h2 l2] [] 100000 [ee,.loopM [] [] (S124 h l h2 l2 n m k 0) .ret (Rv 4 d),ee] []=.ok (.ret (iA d) [],[ee],[LZ W [] 68 0 (S124 h l h2 l2 n m k 0) .ret (Rv 4 d),MatchK [] [] [] {t:=[(2,.gp 100000 0),(3,.gp 100001 0),(5,iA (if (↑(encVs l).length:Int)<(↑(List.map AV.str h.names).length:Int) then (↑(encVs l).length:Int) else (↑(List.map AV.str h.names).length:Int))),(6,iA (if (↑(encVs l2).length:Int)<(↑(List.map AV.str h2.names).length:Int) then (↑(encVs l2).length:Int) else (↑(List.map AV.str h2.names).length:Int))),(26,iA (if (if (↑(encVs l2).length:Int)<(↑(List.map AV.str h2.names).length:Int) then (↑(encVs l2).length:Int) else (↑(List.map AV.str h2.names).length:Int))<if (↑(encVs l).length:Int)<(↑(List.map AV.str h.names).length:Int) then (↑(encVs l).length:Int) else (↑(List.map AV.str h.names).length:Int) then if (↑(encVs l2).length:Int)<(↑(List.map AV.str h2.names).length:Int) then (↑(encVs l2).length:Int) else (↑(List.map AV.str h2.names).length:Int) else if (↑(encVs l).length:Int)<(↑(List.map AV.str h.names).length:Int) then (↑(encVs l).length:Int) else (↑(List.map AV.str h.names).length:Int))),(27,iA 0)],h:=[(100000,gB (eV h l)),(100001,gB (eV h2 l2))]} (S124 h l h2 l2 n m k 0)]):=kr
theorem p129_0 (W:World) (h:JH) (l:List JV) (h2:JH) (l2:List JV) (n m:Nat) (d:Int):sF W {lp:=true,tl:=[94,70]} 73 [eV h l,eV h2 l2] [] 100000 [ee,cR (iA (n:Int)) [],ee,cR (iA (m:Int)) [],ee,.loopM [] [] (S129 h l h2 l2 n m 0) .ret (Rv 4 d),ee] []=.ok (.ret (iA d) [],[ee],[LZ W [] 73 0 (S129 h l h2 l2 n m 0) .ret (Rv 4 d),MatchK [] [] [] {t:=[(2,.gp 100000 0),(3,.gp 100001 0),(5,iA (n:Int)),(6,iA (m:Int)),(7,iA 0)],h:=[(100000,gB (eV h l)),(100001,gB (eV h2 l2))]} (S129 h l h2 l2 n m 0),MZ W 94 [eV h2 l2] [] (.ret (iA (m:Int)) []),MZ W 94 [eV h l] [] (.ret (iA (n:Int)) [])]):=kr
theorem q124_0 (W:World) (h:JH) (l:List JV) (h2:JH) (l2:List JV) (n m k:Nat) (d:Int):sF W {lp:=true,tl:=[63]} 68 [eV h l,eV h2 l2] [] 100000 [ee,.loopM [] [] (S124 h l h2 l2 n m k 0) (.exit 0) (E124 n m),ee,cR (iA d) [],ee] []=.ok (.ret (iA d) [],[ee],[MZ W 63 [iA (n:Int),iA (m:Int)] [] (.ret (iA d) []),LZ W [] 68 0 (S124 h l h2 l2 n m k 0) (.exit 0) (E124 n m),MatchK [] [] [] {t:=[(2,.gp 100000 0),(3,.gp 100001 0),(5,iA (if (↑(encVs l).length:Int)<(↑(List.map AV.str h.names).length:Int) then (↑(encVs l).length:Int) else (↑(List.map AV.str h.names).length:Int))),(6,iA (if (↑(encVs l2).length:Int)<(↑(List.map AV.str h2.names).length:Int) then (↑(encVs l2).length:Int) else (↑(List.map AV.str h2.names).length:Int))),(26,iA (if (if (↑(encVs l2).length:Int)<(↑(List.map AV.str h2.names).length:Int) then (↑(encVs l2).length:Int) else (↑(List.map AV.str h2.names).length:Int))<if (↑(encVs l).length:Int)<(↑(List.map AV.str h.names).length:Int) then (↑(encVs l).length:Int) else (↑(List.map AV.str h.names).length:Int) then if (↑(encVs l2).length:Int)<(↑(List.map AV.str h2.names).length:Int) then (↑(encVs l2).length:Int) else (↑(List.map AV.str h2.names).length:Int) else if (↑(encVs l).length:Int)<(↑(List.map AV.str h.names).length:Int) then (↑(encVs l).length:Int) else (↑(List.map AV.str h.names).length:Int))),(27,iA 0)],h:=[(100000,gB (eV h l)),(100001,gB (eV h2 l2))]} (S124 h l h2 l2 n m k 0)]):=kr
theorem q129_0 (W:World) (h:JH) (l:List JV) (h2:JH) (l2:List JV) (n m:Nat) (d:Int):sF W {lp:=true,tl:=[94,70]} 73 [eV h l,eV h2 l2] [] 100000 [ee,cR (iA (n:Int)) [],ee,cR (iA (m:Int)) [],ee,.loopM [] [] (S129 h l h2 l2 n m 0) (.exit 0) (E124 n m),ee,cR (iA d) [],ee] []=.ok (.ret (iA d) [],[ee],[MZ W 70 [iA (n:Int),iA (m:Int)] [] (.ret (iA d) []),LZ W [] 73 0 (S129 h l h2 l2 n m 0) (.exit 0) (E124 n m),MatchK [] [] [] {t:=[(2,.gp 100000 0),(3,.gp 100001 0),(5,iA (n:Int)),(6,iA (m:Int)),(7,iA 0)],h:=[(100000,gB (eV h l)),(100001,gB (eV h2 l2))]} (S129 h l h2 l2 n m 0),MZ W 94 [eV h2 l2] [] (.ret (iA (m:Int)) []),MZ W 94 [eV h l] [] (.ret (iA (n:Int)) [])]):=kr
theorem b128_0 (W:World) (a b:List UInt8) (i:Nat) (x y:UInt8):sbodyM Tryz.prog W {lp:=true} 72 0 [] (S128 a b i) [bt,bt,bt,bt,bt,bt,aE 1,Ans.byt (some x),aE 1,Ans.byt (some y),bt,ee]=.ok ((.ret,{t:=[(0,.str a),(1,.str b),(4,iA (-1)),(5,iA (i:Int)),(6,iA (i:Int)),(7,.str a),(8,iA (a.length:Int)),(9,bA (decide ((i:Int)<(a.length:Int)))),(10,bA (decide ((i:Int)<(a.length:Int)))),(11,iA (i:Int)),(12,.str b),(13,iA (b.length:Int)),(14,bA (decide ((i:Int)<(b.length:Int)))),(15,bA (decide ((i:Int)<(b.length:Int)))),(18,.str a),(19,iA (i:Int)),(20,.val (Value.int IntKind.u8 (x.toNat:Int))),(21,.str b),(22,iA (i:Int)),(23,.val (Value.int IntKind.u8 (y.toNat:Int))),(24,bA (decide ((x.toNat:Int)<(y.toNat:Int))))],h:=[]}),[ee],(decide ((x.toNat:Int)<(y.toNat:Int))=true)::(b[(i:Int).toNat]?=some y)::(a[(i:Int).toNat]?=some x)::(decide ((i:Int)<(b.length:Int))=true)::(decide ((i:Int)<(a.length:Int))=true)::(d4 (decide ((i:Int)<(a.length:Int))=true) [])):=kr
theorem b128_1 (W:World) (a b:List UInt8) (i:Nat) (x y:UInt8):sbodyM Tryz.prog W {lp:=true} 72 0 [] (S128 a b i) [bt,bt,bt,bt,bt,bt,aE 1,Ans.byt (some x),aE 1,Ans.byt (some y),bf,aE 1,Ans.byt (some x),aE 1,Ans.byt (some y),bt,ee]=.ok ((.ret,{t:=[(0,.str a),(1,.str b),(4,iA 1),(5,iA (i:Int)),(6,iA (i:Int)),(7,.str a),(8,iA (a.length:Int)),(9,bA (decide ((i:Int)<(a.length:Int)))),(10,bA (decide ((i:Int)<(a.length:Int)))),(11,iA (i:Int)),(12,.str b),(13,iA (b.length:Int)),(14,bA (decide ((i:Int)<(b.length:Int)))),(15,bA (decide ((i:Int)<(b.length:Int)))),(18,.str a),(19,iA (i:Int)),(20,.val (Value.int IntKind.u8 (x.toNat:Int))),(21,.str b),(22,iA (i:Int)),(23,.val (Value.int IntKind.u8 (y.toNat:Int))),(24,bA (decide ((x.toNat:Int)<(y.toNat:Int)))),(25,.str a),(26,iA (i:Int)),(27,.val (Value.int IntKind.u8 (x.toNat:Int))),(28,.str b),(29,iA (i:Int)),(30,.val (Value.int IntKind.u8 (y.toNat:Int))),(31,bA (decide ((y.toNat:Int)<(x.toNat:Int))))],h:=[]}),[ee],(decide ((y.toNat:Int)<(x.toNat:Int))=true)::(b[(i:Int).toNat]?=some y)::(a[(i:Int).toNat]?=some x)::(decide ((x.toNat:Int)<(y.toNat:Int))=false)::(b[(i:Int).toNat]?=some y)::(a[(i:Int).toNat]?=some x)::(decide ((i:Int)<(b.length:Int))=true)::(decide ((i:Int)<(a.length:Int))=true)::(d4 (decide ((i:Int)<(a.length:Int))=true) [])):=kr
theorem b128_2 (W:World) (a b:List UInt8) (i:Nat) (x y:UInt8):sQ W {lp:=true} 72 0 [] [0,1,5] (S128 a b i) [bt,bt,bt,bt,bt,bt,aE 1,Ans.byt (some x),aE 1,Ans.byt (some y),bf,aE 1,Ans.byt (some x),aE 1,Ans.byt (some y),bf,ee]=.ok ((.normal,{t:=[(0,.str a),(1,.str b),(5,iA (IntKind.i64.wrap ((i:Int)+1)))],h:=[]}),[ee],(decide ((y.toNat:Int)<(x.toNat:Int))=false)::(b[(i:Int).toNat]?=some y)::(a[(i:Int).toNat]?=some x)::(decide ((x.toNat:Int)<(y.toNat:Int))=false)::(b[(i:Int).toNat]?=some y)::(a[(i:Int).toNat]?=some x)::(decide ((i:Int)<(b.length:Int))=true)::(decide ((i:Int)<(a.length:Int))=true)::(d4 (decide ((i:Int)<(a.length:Int))=true) [])):=kr
theorem b128_3 (W:World) (a b:List UInt8) (i:Nat):sbodyM Tryz.prog W {lp:=true} 72 0 [] (S128 a b i) [bt,bt,bt,bt,bt,bf,ee]=.ok ((.exit 0,{t:=[(0,.str a),(1,.str b),(5,iA (i:Int)),(6,iA (i:Int)),(7,.str a),(8,iA (a.length:Int)),(9,bA (decide ((i:Int)<(a.length:Int)))),(10,bA (decide ((i:Int)<(a.length:Int)))),(11,iA (i:Int)),(12,.str b),(13,iA (b.length:Int)),(14,bA (decide ((i:Int)<(b.length:Int)))),(15,bA (decide ((i:Int)<(b.length:Int))))],h:=[]}),[ee],(decide ((i:Int)<(b.length:Int))=false)::(decide ((i:Int)<(a.length:Int))=true)::(d4 (decide ((i:Int)<(a.length:Int))=true) [])):=kr
theorem b128_4 (W:World) (a b:List UInt8) (i:Nat):sbodyM Tryz.prog W {lp:=true} 72 0 [] (S128 a b i) [bf,bf,bf,bf,bf,ee]=.ok ((.exit 0,{t:=[(0,.str a),(1,.str b),(5,iA (i:Int)),(6,iA (i:Int)),(7,.str a),(8,iA (a.length:Int)),(9,bA (decide ((i:Int)<(a.length:Int)))),(10,bA (decide ((i:Int)<(a.length:Int)))),(11,.val (Value.tuple #[])),(12,.val (Value.tuple #[])),(13,.val (Value.tuple #[])),(14,.val (Value.tuple #[])),(15,bA false)],h:=[]}),[aE 9999999],(decide ((i:Int)<(a.length:Int))=false)::(d4 (decide ((i:Int)<(a.length:Int))=false) [])):=kr
theorem p128_0 (W:World) (a b:List UInt8) (d:Int):sF W {lp:=true,tl:=[70]} 72 [.str a,.str b] [] 100000 [ee,.loopM [] [] (S128 a b 0) .ret (Rv 4 d),ee] []=.ok (.ret (iA d) [],[ee],[LZ W [] 72 0 (S128 a b 0) .ret (Rv 4 d),MatchK [] [] [] {t:=[(0,.str a),(1,.str b),(5,iA 0)],h:=[]} (S128 a b 0)]):=kr
theorem q128_0 (W:World) (a b:List UInt8) (d:Int):sF W {lp:=true,tl:=[70]} 72 [.str a,.str b] [] 100000 [ee,.loopM [] [] (S128 a b 0) (.exit 0) (E128 a b),ee,cR (iA d) [],ee] []=.ok (.ret (iA d) [],[ee],[MZ W 70 [iA (a.length:Int),iA (b.length:Int)] [] (.ret (iA d) []),LZ W [] 72 0 (S128 a b 0) (.exit 0) (E128 a b),MatchK [] [] [] {t:=[(0,.str a),(1,.str b),(5,iA 0)],h:=[]} (S128 a b 0)]):=kr
theorem call119:callable Tryz.prog 63=true:=kr
theorem call121:callable Tryz.prog 65=true:=kr
theorem call122:callable Tryz.prog 66=true:=kr
theorem call126:callable Tryz.prog 70=true:=kr
theorem call128:callable Tryz.prog 72=true:=kr
theorem call120:callable Tryz.prog 64=true:=kr
theorem call127:callable Tryz.prog 71=true:=kr
theorem call158:callable Tryz.prog 94=true:=kr
theorem call81:callable Tryz.prog 36=true:=kr
theorem call83:callable Tryz.prog 38=true:=kr
theorem call123:callable Tryz.prog 67=true:=kr
theorem call124:callable Tryz.prog 68=true:=kr
theorem call129:callable Tryz.prog 73=true:=kr
theorem ints119 (W:World) (a b:Int):Pure Tryz.prog W 63 [iA a,iA b] (iA (cmpI a b)):=by
 have hs1:(!decide (a=a))=false:=by simp
 have hs2:(!decide (b=b))=false:=by simp
 by_cases h1:a<b
 ·exact goB (by unfold cmpI;rw [if_pos h1]<;>rfl) rfl (mut_of_sfun mixedz call119 rfl (p119_3 W a b) Fb8_z2)
 by_cases h2:b<a
 ·exact goB (by unfold cmpI;rw [if_neg h1,if_pos h2]<;>rfl) rfl (mut_of_sfun mixedz call119 rfl (p119_4 W a b) Fb8_z2)
 ·exact goB (by unfold cmpI;rw [if_neg h1,if_neg h2]<;>rfl) rfl (mut_of_sfun mixedz call119 rfl (p119_5 W a b) Fb8_z2)
theorem ints121 (W:World) (a b:Int):Pure Tryz.prog W 65 [iA a,iA b] (iA (cmpI a b)):=by
 have hs1:(!decide (a=a))=false:=by simp
 have hs2:(!decide (b=b))=false:=by simp
 by_cases h1:a<b
 ·exact goB (by unfold cmpI;rw [if_pos h1]<;>rfl) rfl (mut_of_sfun mixedz call121 rfl (p121_3 W a b) Fb8_z2)
 by_cases h2:b<a
 ·exact goB (by unfold cmpI;rw [if_neg h1,if_pos h2]<;>rfl) rfl (mut_of_sfun mixedz call121 rfl (p121_4 W a b) Fb8_z2)
 ·exact goB (by unfold cmpI;rw [if_neg h1,if_neg h2]<;>rfl) rfl (mut_of_sfun mixedz call121 rfl (p121_5 W a b) Fb8_z2)
theorem ints126 (W:World) (a b:Int):Pure Tryz.prog W 70 [iA a,iA b] (iA (cmpI a b)):=by
 by_cases h1:a<b
 ·exact goB (by unfold cmpI;rw [if_pos h1]<;>rfl) rfl (mut_of_sfun mixedz call126 rfl (p126_0 W a b) Fb8_z2)
 by_cases h2:b<a
 ·exact goB (by unfold cmpI;rw [if_neg h1,if_pos h2]<;>rfl) rfl (mut_of_sfun mixedz call126 rfl (p126_1 W a b) Fb8_z2)
 ·exact goB (by unfold cmpI;rw [if_neg h1,if_neg h2]<;>rfl) rfl (mut_of_sfun mixedz call126 rfl (p126_2 W a b) Fb8_z2)
theorem rank120 (W:World) (h:JH) (l:List JV):Pure Tryz.prog W 64 [encV (.mk h l)] (iA (rankV h.kind)):=by
 by_cases k0:h.kind=0
 case pos=>exact goB (by rw [show rankV h.kind=0 by unfold rankV;rw [if_pos k0]]<;>rfl) rfl (mut_of_sfun mixedz call120 rfl (p120_0 W h l) Fb8_z2)
 by_cases k3:h.kind=3
 case pos=>exact goB (by rw [show rankV h.kind=1 by unfold rankV;rw [if_neg k0,if_pos k3]]<;>rfl) rfl (mut_of_sfun mixedz call120 rfl (p120_1 W h l) Fb8_z2)
 by_cases k4:h.kind=4
 case pos=>exact goB (by rw [show rankV h.kind=2 by unfold rankV;rw [if_neg k0,if_neg k3,if_pos k4]]<;>rfl) rfl (mut_of_sfun mixedz call120 rfl (p120_2 W h l) Fb8_z2)
 by_cases k6:h.kind=6
 case pos=>exact goB (by rw [show rankV h.kind=3 by unfold rankV;rw [if_neg k0,if_neg k3,if_neg k4,if_pos k6]]<;>rfl) rfl (mut_of_sfun mixedz call120 rfl (p120_3 W h l) Fb8_z2)
 by_cases k5:h.kind=5
 case pos=>exact goB (by rw [show rankV h.kind=4 by unfold rankV;rw [if_neg k0,if_neg k3,if_neg k4,if_neg k6,if_pos k5]]<;>rfl) rfl (mut_of_sfun mixedz call120 rfl (p120_4 W h l) Fb8_z2)
 by_cases k1:h.kind=1
 case pos=>exact goB (by rw [show rankV h.kind=5 by unfold rankV;rw [if_neg k0,if_neg k3,if_neg k4,if_neg k6,if_neg k5,if_pos k1]]<;>rfl) rfl (mut_of_sfun mixedz call120 rfl (p120_5 W h l) Fb8_z2)
 by_cases k2:h.kind=2
 case pos=>exact goB (by rw [show rankV h.kind=6 by unfold rankV;rw [if_neg k0,if_neg k3,if_neg k4,if_neg k6,if_neg k5,if_neg k1,if_pos k2]]<;>rfl) rfl (mut_of_sfun mixedz call120 rfl (p120_6 W h l) Fb8_z2)
 exact goB (by rw [show rankV h.kind=-1 by unfold rankV;rw [if_neg k0,if_neg k3,if_neg k4,if_neg k6,if_neg k5,if_neg k1,if_neg k2]]<;>rfl) rfl (mut_of_sfun mixedz call120 rfl (p120_7 W h l) Fb8_z2)
theorem rank127 (W:World) (h:JH) (l:List JV):Pure Tryz.prog W 71 [encV (.mk h l)] (iA (rankV h.kind)):=by
 by_cases k0:h.kind=0
 case pos=>exact goB (by rw [show rankV h.kind=0 by unfold rankV;rw [if_pos k0]]<;>rfl) rfl (mut_of_sfun mixedz call127 rfl (p127_0 W h l) Fb8_z2)
 by_cases k3:h.kind=3
 case pos=>exact goB (by rw [show rankV h.kind=1 by unfold rankV;rw [if_neg k0,if_pos k3]]<;>rfl) rfl (mut_of_sfun mixedz call127 rfl (p127_1 W h l) Fb8_z2)
 by_cases k4:h.kind=4
 case pos=>exact goB (by rw [show rankV h.kind=2 by unfold rankV;rw [if_neg k0,if_neg k3,if_pos k4]]<;>rfl) rfl (mut_of_sfun mixedz call127 rfl (p127_2 W h l) Fb8_z2)
 by_cases k6:h.kind=6
 case pos=>exact goB (by rw [show rankV h.kind=3 by unfold rankV;rw [if_neg k0,if_neg k3,if_neg k4,if_pos k6]]<;>rfl) rfl (mut_of_sfun mixedz call127 rfl (p127_3 W h l) Fb8_z2)
 by_cases k5:h.kind=5
 case pos=>exact goB (by rw [show rankV h.kind=4 by unfold rankV;rw [if_neg k0,if_neg k3,if_neg k4,if_neg k6,if_pos k5]]<;>rfl) rfl (mut_of_sfun mixedz call127 rfl (p127_4 W h l) Fb8_z2)
 by_cases k1:h.kind=1
 case pos=>exact goB (by rw [show rankV h.kind=5 by unfold rankV;rw [if_neg k0,if_neg k3,if_neg k4,if_neg k6,if_neg k5,if_pos k1]]<;>rfl) rfl (mut_of_sfun mixedz call127 rfl (p127_5 W h l) Fb8_z2)
 by_cases k2:h.kind=2
 case pos=>exact goB (by rw [show rankV h.kind=6 by unfold rankV;rw [if_neg k0,if_neg k3,if_neg k4,if_neg k6,if_neg k5,if_neg k1,if_pos k2]]<;>rfl) rfl (mut_of_sfun mixedz call127 rfl (p127_6 W h l) Fb8_z2)
 exact goB (by rw [show rankV h.kind=-1 by unfold rankV;rw [if_neg k0,if_neg k3,if_neg k4,if_neg k6,if_neg k5,if_neg k1,if_neg k2]]<;>rfl) rfl (mut_of_sfun mixedz call127 rfl (p127_7 W h l) Fb8_z2)
theorem u8_lt (x y:UInt8):(x.toNat:Int)<(y.toNat:Int) ↔ x<y:=by rw [UInt8.lt_iff_toNat_lt];omega
theorem cmpB_cons (x y:UInt8) (a b:List UInt8):Lib.compareBytes (x::a) (y::b)=if x<y then -1 else if y<x then 1 else Lib.compareBytes a b:=by rw [Lib.compareBytes]
theorem cmpB_less:∀ a b:List UInt8,(Op.bytesLess a b=true ↔ Lib.compareBytes a b=-1)/\(Lib.compareBytes a b=0 ↔ a=b)/\(Lib.compareBytes a b=-1\/Lib.compareBytes a b=0\/Lib.compareBytes a b=1)
 | [],[]=>by simp [Op.bytesLess,Lib.compareBytes]
 | [],y::b=>by simp [Op.bytesLess,Lib.compareBytes]
 | x::a,[]=>by simp [Op.bytesLess,Lib.compareBytes]
 | x::a,y::b=>by
  obtain ⟨i1,i2,i3⟩:=cmpB_less a b
  rw [cmpB_cons]
  by_cases h1:x<y
  ·have hne:¬ x=y:=by rintro rfl;exact absurd h1 (UInt8.lt_irrefl x)
   simp [Op.bytesLess,h1,hne]
  by_cases h2:y<x
  ·have hne:¬ x=y:=by rintro rfl;exact absurd h2 (UInt8.lt_irrefl x)
   simp [Op.bytesLess,h1,h2,hne]
  ·have he:x=y:=UInt8.le_antisymm (UInt8.not_lt.1 h2) (UInt8.not_lt.1 h1)
   subst he
   rw [if_neg h1,if_neg h2]
   exact ⟨by simp [Op.bytesLess,i1],by simp [i2],i3⟩
theorem str122 (W:World) (a b:List UInt8):Pure Tryz.prog W 66 [.str a,.str b] (iA (Lib.compareBytes a b)):=by
 have hs1:(!decide (a=a))=false:=by simp
 have hs2:(!decide (b=b))=false:=by simp
 obtain ⟨i1,i2,i3⟩:=cmpB_less a b
 by_cases h1:Op.bytesLess a b=true
 ·exact goB (by rw [i1.1 h1]<;>rfl) rfl (mut_of_sfun mixedz call122 rfl (p122_3 W a b) Fb8_z2)
 have h1':Op.bytesLess a b=false:=by simpa using h1
 have hne:¬ Lib.compareBytes a b=-1:=fun e=>h1 (i1.2 e)
 by_cases h2:a=b
 ·have hb1:(!(Op.bytesLess a b || decide (a=b)))=false:=by simp [h2]
  exact goB (by rw [i2.2 h2]<;>rfl) rfl (mut_of_sfun mixedz call122 rfl (p122_5 W a b) Fb8_z2)
 ·have hb1:(!(Op.bytesLess a b || decide (a=b)))=true:=by simp [h1',h2]
  have h0:¬ Lib.compareBytes a b=0:=fun e=>h2 (i2.1 e)
  exact goB (by rw [show Lib.compareBytes a b=1 by omega]<;>rfl) rfl (mut_of_sfun mixedz call122 rfl (p122_4 W a b) Fb8_z2)
theorem cmpB_end {a b:List UInt8} {i:Nat} (h1:i<=a.length) (h2:i<=b.length) (h:i=a.length\/i=b.length):Lib.compareBytes (a.drop i) (b.drop i)=cmpI a.length b.length:=by
 rcases h with h|h
 ·rw [h,List.drop_length]
  unfold cmpI
  cases e:b.drop a.length with
  | nil=>have:=congrArg List.length e;simp only [List.length_drop,List.length_nil] at this;rw [if_neg (by omega),if_neg (by omega)];rfl
  | cons y r=>have:=congrArg List.length e;simp only [List.length_drop,List.length_cons] at this;rw [if_pos (by omega)];rfl
 ·rw [h,List.drop_length]
  unfold cmpI
  cases e:a.drop b.length with
  | nil=>have:=congrArg List.length e;simp only [List.length_drop,List.length_nil] at this;rw [if_neg (by omega),if_neg (by omega)];rfl
  | cons y r=>have:=congrArg List.length e;simp only [List.length_drop,List.length_cons] at this;rw [if_neg (by omega),if_pos (by omega)];rfl
theorem cmpLs_end (f:JV->JV->Int) {a b:List JV} {i:Nat} (h1:i<=a.length) (h2:i<=b.length) (h:i=a.length\/i=b.length):cmpLs f (a.drop i) (b.drop i)=cmpI a.length b.length:=by
 rcases h with h|h
 ·rw [h,List.drop_length]
  unfold cmpI
  cases e:b.drop a.length with
  | nil=>have:=congrArg List.length e;simp only [List.length_drop,List.length_nil] at this;rw [if_neg (by omega),if_neg (by omega)];rfl
  | cons y r=>have:=congrArg List.length e;simp only [List.length_drop,List.length_cons] at this;rw [if_pos (by omega)];rfl
 ·rw [h,List.drop_length]
  unfold cmpI
  cases e:a.drop b.length with
  | nil=>have:=congrArg List.length e;simp only [List.length_drop,List.length_nil] at this;rw [if_neg (by omega),if_neg (by omega)];rfl
  | cons y r=>have:=congrArg List.length e;simp only [List.length_drop,List.length_cons] at this;rw [if_neg (by omega),if_pos (by omega)];rfl
theorem cmpMs_end (f:JV->JV->Int) {a b:List (List UInt8×JV)} {i:Nat} (h1:i<=a.length) (h2:i<=b.length) (h:i=a.length\/i=b.length):cmpMs f (a.drop i) (b.drop i)=cmpI a.length b.length:=by
 rcases h with h|h
 ·rw [h,List.drop_length]
  unfold cmpI
  cases e:b.drop a.length with
  | nil=>have:=congrArg List.length e;simp only [List.length_drop,List.length_nil] at this;rw [if_neg (by omega),if_neg (by omega)];rfl
  | cons y r=>have:=congrArg List.length e;simp only [List.length_drop,List.length_cons] at this;rw [if_pos (by omega)];rfl
 ·rw [h,List.drop_length]
  unfold cmpI
  cases e:a.drop b.length with
  | nil=>have:=congrArg List.length e;simp only [List.length_drop,List.length_nil] at this;rw [if_neg (by omega),if_neg (by omega)];rfl
  | cons y r=>have:=congrArg List.length e;simp only [List.length_drop,List.length_cons] at this;rw [if_neg (by omega),if_pos (by omega)];rfl
theorem cmpLs_step (f:JV->JV->Int) {a b:List JV} {i:Nat} {x y:JV} (hx:a[i]?=some x) (hy:b[i]?=some y):cmpLs f (a.drop i) (b.drop i)=if f x y=0 then cmpLs f (a.drop (i+1)) (b.drop (i+1)) else f x y:=by
 rw [drop_get hx,drop_get hy,cmpLs]
theorem cmpMs_step (f:JV->JV->Int) {a b:List (List UInt8×JV)} {i:Nat} {x y:List UInt8} {v w:JV} (hx:a[i]?=some (x,v)) (hy:b[i]?=some (y,w)):cmpMs f (a.drop i) (b.drop i)=if Lib.compareBytes x y=0 then (if f v w=0 then cmpMs f (a.drop (i+1)) (b.drop (i+1)) else f v w) else Lib.compareBytes x y:=by
 rw [drop_get hx,drop_get hy,cmpMs]
theorem mems_at {v:JV} {i:Nat} {x:List UInt8} {w:JV} (h1:v.names[i]?=some x) (h2:v.items[i]?=some w):v.mems[i]?=some (x,w):=by
 unfold JV.mems;rw [List.getElem?_zip_eq_some];exact ⟨h1,h2⟩
section
variable (W:World)
theorem loop128 (a b:List UInt8) (hl:a.length<=2 ^ 50):∀ (k i:Nat),a.length - i=k->i<=a.length->i<=b.length →
 (LoopC Tryz.prog W [] (nslots Tryz.prog 72) (loopOf Tryz.prog 72 0) (S128 a b i) .ret (Rv 4 (Lib.compareBytes (a.drop i) (b.drop i)))) ∨
 (LoopC Tryz.prog W [] (nslots Tryz.prog 72) (loopOf Tryz.prog 72 0) (S128 a b i) (.exit 0) (E128 a b)/\Lib.compareBytes (a.drop i) (b.drop i)=cmpI a.length b.length):=by
 intro k
 induction k with
 | zero =>
  intro i hk h1 h2
  have hi:i=a.length:=by omega
  right
  refine ⟨loop_last (by simp) (body_of_sbodyM mixedz (b128_4 W a b i) Fb8_z2 [] [] Fb8_z1),cmpB_end h1 h2 (.inl hi)⟩
 | succ k ih =>
  intro i hk h1 h2
  by_cases hb:i<b.length
  case neg=>exact .inr ⟨loop_last (by simp) (body_of_sbodyM mixedz (b128_3 W a b i) Fb8_z2 [] [] Fb8_z1),cmpB_end h1 h2 (.inr (by omega))⟩
  obtain ⟨x,hx⟩:=getOf (l:=a) (i:=i) (by omega)
  obtain ⟨y,hy⟩:=getOf hb
  have hget:a[((i:Int)).toNat]?=some x:=by rw [Int.toNat_natCast];exact hx
  have hget2:b[((i:Int)).toNat]?=some y:=by rw [Int.toNat_natCast];exact hy
  have hws:IntKind.i64.wrap ((i:Int)+1)=((i+1:Nat):Int):=wrap_succ (by omega)
  have e:=cmpB_cons x y (a.drop (i+1)) (b.drop (i+1))
  rw [<-drop_get hx,<-drop_get hy] at e
  by_cases hxy:(x.toNat:Int)<(y.toNat:Int)
  ·rw [if_pos ((u8_lt x y).1 hxy)] at e
   rw [e]
   exact .inl (loop_last (by simp) (body_of_sbodyM mixedz (b128_0 W a b i x y) Fb8_z2 [] [] Fb8_z1))
  rw [if_neg (fun h=>hxy ((u8_lt x y).2 h))] at e
  by_cases hyx:(y.toNat:Int)<(x.toNat:Int)
  ·rw [if_pos ((u8_lt y x).1 hyx)] at e
   rw [e]
   exact .inl (loop_last (by simp) (body_of_sbodyM mixedz (b128_1 W a b i x y) Fb8_z2 [] [] Fb8_z1))
  rw [if_neg (fun h=>hyx ((u8_lt y x).2 h))] at e
  rw [e]
  have hbd:BodyC Tryz.prog W [] (nslots Tryz.prog 72) (loopOf Tryz.prog 72 0) (S128 a b i) .normal (S128 a b (i+1:Nat)):=body_of_sbodyK mixedz (b128_2 W a b i x y) Fb8_z2 [] [] Fb8_z1
  rcases ih (i+1) (by omega) (by omega) (by omega) with h|⟨h,h'⟩
  ·exact .inl (loop_next hbd h)
  ·exact .inr ⟨loop_next hbd h,h'⟩
theorem texts128 (a b:List UInt8) (hl:a.length<=2 ^ 50):Pure Tryz.prog W 72 [.str a,.str b] (iA (Lib.compareBytes a b)):=by
 rcases loop128 W a b hl a.length 0 (by simp) (by omega) (by omega) with hlp|⟨hlp,h2⟩
 ·exact pure_of_mut rfl (mut_of_sfun mixedz call128 rfl (p128_0 W a b _) Fb8_z3)
 ·have hc:=mut_of_pure (by rfl) (ints126 W a.length b.length)
  rw [show Lib.compareBytes a b=cmpI a.length b.length from h2]
  exact pure_of_mut rfl (mut_of_sfun mixedz call128 rfl (q128_0 W a b _) Fb8_z3)
theorem loop123 (f:JV->JV->Int) (a b:List JV) (hl:a.length<=2 ^ 50) (hf:∀ x ∈ a,∀ y,Pure Tryz.prog W 36 [encV x,encV y] (iA (f x y))):∀ (k i:Nat),a.length - i=k->i<=a.length->i<=b.length →
 (LoopC Tryz.prog W [] (nslots Tryz.prog 67) (loopOf Tryz.prog 67 0) (S123 a b i) .ret (Rv 6 (cmpLs f (a.drop i) (b.drop i)))) ∨
 (LoopC Tryz.prog W [] (nslots Tryz.prog 67) (loopOf Tryz.prog 67 0) (S123 a b i) (.exit 0) (E123 a b)/\a.length<=b.length/\cmpLs f (a.drop i) (b.drop i)=cmpI a.length b.length):=by
 intro k
 induction k with
 | zero =>
  intro i hk h1 h2
  have hi:i=a.length:=by omega
  exact .inr ⟨loop_last (by simp) (body_of_sbodyM mixedz (b123_3 W a b i ⟨0,0,[],[]⟩) Fb8_z2 [] [] Fb8_z1),by omega,cmpLs_end f h1 h2 (.inl hi)⟩
 | succ k ih =>
  intro i hk h1 h2
  obtain ⟨x,hx⟩:=getOf (l:=a) (i:=i) (by omega)
  have hget:(encVs a)[((i:Int)).toNat]?=some (encV x):=by rw [Int.toNat_natCast];exact encVs_get hx
  by_cases hb:i<b.length
  case neg =>
   rw [cmpLs_end f h1 h2 (.inr (by omega)),cmpI,if_neg (by omega),if_pos (by omega)]
   obtain ⟨h3,l3⟩:=x
   exact .inl (loop_last (by simp) (body_of_sbodyM mixedz (b123_0 W a b i h3 l3) Fb8_z2 [] [] Fb8_z1))
  obtain ⟨y,hy⟩:=getOf hb
  have hget2:(encVs b)[((i:Int)).toNat]?=some (encV y):=by rw [Int.toNat_natCast];exact encVs_get hy
  have hws:IntKind.i64.wrap ((i:Int)+1)=((i+1:Nat):Int):=wrap_succ (by omega)
  have hc:=mut_of_pure (by simp only [cloL,encV_clo,Bool.and_self]) (hf x (List.mem_of_getElem? hx) y)
  rw [cmpLs_step f hx hy]
  by_cases e:f x y=0
  ·rw [if_pos e]
   have hb1:(!decide (f x y=0))=false:=by simp [e]
   have hbd:BodyC Tryz.prog W [] (nslots Tryz.prog 67) (loopOf Tryz.prog 67 0) (S123 a b i) .normal (S123 a b (i+1:Nat)):=by
    obtain ⟨h3,l3⟩:=x
    obtain ⟨h4,l4⟩:=y
    exact body_of_sbodyK mixedz (b123_2 W a b i h3 l3 h4 l4 _) Fb8_z2 [] [] Fb8_z1
   rcases ih (i+1) (by omega) (by omega) (by omega) with h|⟨h,h'⟩
   ·exact .inl (loop_next hbd h)
   ·exact .inr ⟨loop_next hbd h,h'⟩
  ·rw [if_neg e]
   have hb1:(!decide (f x y=0))=true:=by simp [e]
   obtain ⟨h3,l3⟩:=x
   obtain ⟨h4,l4⟩:=y
   exact .inl (loop_last (by simp) (body_of_sbodyM mixedz (b123_1 W a b i h3 l3 h4 l4 _) Fb8_z2 [] [] Fb8_z1))
theorem lists123 (f:JV->JV->Int) (a b:List JV) (hl:a.length<=2 ^ 50) (hf:∀ x ∈ a,∀ y,Pure Tryz.prog W 36 [encV x,encV y] (iA (f x y))):Pure Tryz.prog W 67 [.sl 5 (encVs a) [],.sl 5 (encVs b) [],.val (.func (.func 36) #[] #[])] (iA (cmpLs f a b)):=by
 rcases loop123 W f a b hl hf a.length 0 (by simp) (by omega) (by omega) with hlp|⟨hlp,h2,h3⟩
 ·exact pure_of_mut rfl (mut_of_sfun mixedz call123 rfl (p123_0 W a b _) Fb8_z3)
 ·rw [show cmpLs f a b=cmpI a.length b.length from h3,cmpI]
  by_cases h:(a.length:Int)<(b.length:Int)
  ·rw [if_pos h]
   exact pure_of_mut rfl (mut_of_sfun mixedz call123 rfl (q123_0 W a b) Fb8_z3)
  ·rw [if_neg h,if_neg (by omega)]
   exact pure_of_mut rfl (mut_of_sfun mixedz call123 rfl (q123_1 W a b) Fb8_z3)
section
variable (h:JH) (l:List JV) (h2:JH) (l2:List JV)
theorem loop124 (f:JV->JV->Int) (hl:cntV (.mk h l)<=2 ^ 50) (hf:∀ x ∈ l,∀ y,Pure Tryz.prog W 36 [encV x,encV y] (iA (f x y))) (m:Nat) (hm:m<=(JV.mk h l).mem/\m<=(JV.mk h2 l2).mem/\(m=(JV.mk h l).mem\/m=(JV.mk h2 l2).mem)):∀ (k i:Nat),m - i=k->i<=m →
 (LoopC Tryz.prog W [] (nslots Tryz.prog 68) (loopOf Tryz.prog 68 0) (S124 h l h2 l2 (JV.mk h l).mem (JV.mk h2 l2).mem m i) .ret (Rv 4 (cmpMs f ((JV.mk h l).mems.drop i) ((JV.mk h2 l2).mems.drop i)))) ∨
 (LoopC Tryz.prog W [] (nslots Tryz.prog 68) (loopOf Tryz.prog 68 0) (S124 h l h2 l2 (JV.mk h l).mem (JV.mk h2 l2).mem m i) (.exit 0) (E124 (JV.mk h l).mem (JV.mk h2 l2).mem)/\cmpMs f ((JV.mk h l).mems.drop i) ((JV.mk h2 l2).mems.drop i)=cmpI (JV.mk h l).mem (JV.mk h2 l2).mem):=by
 have hcl:=cntV_len (.mk h l)
 have a1:=JV.mem_names (.mk h l)
 have a2:=JV.mem_items (.mk h l)
 have a3:=JV.mem_names (.mk h2 l2)
 have a4:=JV.mem_items (.mk h2 l2)
 simp only [JV.names,JV.items,JV.hd] at hcl a1 a2 a3 a4
 have b1:=JV.mems_len (.mk h l)
 have b2:=JV.mems_len (.mk h2 l2)
 intro k
 induction k with
 | zero =>
  intro i hk h1
  have hi:i=m:=by omega
  refine .inr ⟨loop_last (by simp) (body_of_sbodyM mixedz (b124_3 W h l h2 l2 _ _ m i) Fb8_z2 [] [] Fb8_z1),?_⟩
  rw [cmpMs_end f (by omega) (by omega) (by omega),b1,b2]
 | succ k ih =>
  intro i hk h1
  obtain ⟨x,hx⟩:=getOf (l:=h.names) (i:=i) (by omega)
  obtain ⟨y,hy⟩:=getOf (l:=h2.names) (i:=i) (by omega)
  obtain ⟨v,hv⟩:=getOf (l:=l) (i:=i) (by omega)
  obtain ⟨w,hw⟩:=getOf (l:=l2) (i:=i) (by omega)
  have hget:(List.map AV.str h.names)[((i:Int)).toNat]?=some (AV.str x):=by rw [Int.toNat_natCast];exact strs_get hx
  have hget2:(List.map AV.str h2.names)[((i:Int)).toNat]?=some (AV.str y):=by rw [Int.toNat_natCast];exact strs_get hy
  have hget3:(encVs l)[((i:Int)).toNat]?=some (encV v):=by rw [Int.toNat_natCast];exact encVs_get hv
  have hget4:(encVs l2)[((i:Int)).toNat]?=some (encV w):=by rw [Int.toNat_natCast];exact encVs_get hw
  have hws:IntKind.i64.wrap ((i:Int)+1)=((i+1:Nat):Int):=wrap_succ (by omega)
  have hc1:=mut_of_pure (by rfl) (str122 W x y)
  have hc2:=mut_of_pure (by simp only [cloL,encV_clo,Bool.and_self]) (hf v (List.mem_of_getElem? hv) w)
  rw [cmpMs_step f (mems_at (v:=.mk h l) hx hv) (mems_at (v:=.mk h2 l2) hy hw)]
  by_cases e1:Lib.compareBytes x y=0
  case neg =>
   rw [if_neg e1]
   have hb1:(!decide (Lib.compareBytes x y=0))=true:=by simp [e1]
   exact .inl (loop_last (by simp) (body_of_sbodyM mixedz (b124_0 W h l h2 l2 _ _ m i x y _) Fb8_z2 [] [] Fb8_z1))
  rw [if_pos e1]
  have hb1:(!decide (Lib.compareBytes x y=0))=false:=by simp [e1]
  by_cases e:f v w=0
  ·rw [if_pos e]
   have hb2:(!decide (f v w=0))=false:=by simp [e]
   have hbd:BodyC Tryz.prog W [] (nslots Tryz.prog 68) (loopOf Tryz.prog 68 0) (S124 h l h2 l2 (JV.mk h l).mem (JV.mk h2 l2).mem m i) .normal (S124 h l h2 l2 (JV.mk h l).mem (JV.mk h2 l2).mem m (i+1:Nat)):=by
    obtain ⟨h3,l3⟩:=v
    obtain ⟨h4,l4⟩:=w
    exact body_of_sbodyK mixedz (b124_2 W h l h2 l2 _ _ m i x y h3 l3 h4 l4 (Lib.compareBytes x y) (f (.mk h3 l3) (.mk h4 l4))) Fb8_z2 [] [] Fb8_z1
   rcases ih (i+1) (by omega) (by omega) with h|⟨h,h'⟩
   ·exact .inl (loop_next hbd h)
   ·exact .inr ⟨loop_next hbd h,h'⟩
  ·rw [if_neg e]
   have hb2:(!decide (f v w=0))=true:=by simp [e]
   obtain ⟨h3,l3⟩:=v
   obtain ⟨h4,l4⟩:=w
   exact .inl (loop_last (by simp) (body_of_sbodyM mixedz (b124_1 W h l h2 l2 _ _ m i x y h3 l3 h4 l4 (Lib.compareBytes x y) (f (.mk h3 l3) (.mk h4 l4))) Fb8_z2 [] [] Fb8_z1))
theorem members124 (f:JV->JV->Int) (hl:cntV (.mk h l)<=2 ^ 50) (hf:∀ x ∈ l,∀ y,Pure Tryz.prog W 36 [encV x,encV y] (iA (f x y))):Pure Tryz.prog W 68 [encV (.mk h l),encV (.mk h2 l2)] (iA (cmpMs f (JV.mk h l).mems (JV.mk h2 l2).mems)):=by
 have hme:=mem_min h l
 have hme2:=mem_min h2 l2
 obtain ⟨m,hm,hmk⟩:∃ m:Nat,(m<=(JV.mk h l).mem/\m<=(JV.mk h2 l2).mem/\(m=(JV.mk h l).mem\/m=(JV.mk h2 l2).mem))/\(if (((JV.mk h2 l2).mem:Nat):Int)<(((JV.mk h l).mem:Nat):Int) then (((JV.mk h2 l2).mem:Nat):Int) else (((JV.mk h l).mem:Nat):Int))=((m:Nat):Int):=by
  by_cases q:(JV.mk h2 l2).mem<(JV.mk h l).mem
  ·exact ⟨_,⟨by omega,Nat.le_refl _,.inr rfl⟩,by rw [if_pos (by omega)]⟩
  ·exact ⟨_,⟨Nat.le_refl _,by omega,.inl rfl⟩,by rw [if_neg (by omega)]⟩
 rcases loop124 W h l h2 l2 f hl hf m hm m 0 (by simp) (by omega) with hlp|⟨hlp,h3⟩
 ·exact pure_of_mut rfl (mut_of_sfun mixedz call124 rfl (p124_0 W h l h2 l2 _ _ m _) Fb8_z3)
 ·have hc:=mut_of_pure (by rfl) (ints119 W (JV.mk h l).mem (JV.mk h2 l2).mem)
  rw [show cmpMs f (JV.mk h l).mems (JV.mk h2 l2).mems=_ from h3]
  exact pure_of_mut rfl (mut_of_sfun mixedz call124 rfl (q124_0 W h l h2 l2 _ _ m _) Fb8_z3)
end
theorem cmpF_mk (n:Nat) (h:JH) (l:List JV) (h2:JH) (l2:List JV):cmpF (n+1) (.mk h l) (.mk h2 l2)=if cmpI (rankV h.kind) (rankV h2.kind)=0 then (if h.kind=3 then cmpI h.int h2.int else if h.kind=4 then Lib.compareBytes h.text h2.text else if h.kind=5 then cmpLs (cmpF n) l l2 else if h.kind=6 then cmpMs (cmpF n) (JV.mk h l).mems (JV.mk h2 l2).mems else 0) else cmpI (rankV h.kind) (rankV h2.kind):=rfl
theorem compare81:∀ (n:Nat) (a b:JV),sizeV a<n->cntV a<=2 ^ 30->Pure Tryz.prog W 36 [encV a,encV b] (iA (cmpF n a b))
 | 0,a,b,h,_=>by omega
 | n+1,.mk h l,.mk h2 l2,hn,hcn=>by
  have hcnl:=cntV_len (.mk h l)
  simp only [JV.names,JV.hd,JV.items] at hcnl
  have hf:∀ x ∈ l,∀ y,Pure Tryz.prog W 36 [encV x,encV y] (iA (cmpF n x y)):=fun x hx y=>compare81 n x y (by
   obtain ⟨i,hi⟩:=List.getElem?_of_mem hx
   have:=sizeV_item (v:=.mk h l) hi;omega) (by
   obtain ⟨i,hi⟩:=List.getElem?_of_mem hx
   have:=cntV_item (v:=.mk h l) hi;omega)
  have hc1:=mut_of_pure (by rfl) (rank120 W h l)
  have hc2:=mut_of_pure (by rfl) (rank120 W h2 l2)
  have hc3:=mut_of_pure (by rfl) (ints119 W (rankV h.kind) (rankV h2.kind))
  rw [cmpF_mk]
  by_cases e0:cmpI (rankV h.kind) (rankV h2.kind)=0
  case neg =>
   rw [if_neg e0]
   have hb1:(!decide (cmpI (rankV h.kind) (rankV h2.kind)=0))=true:=by simp [e0]
   exact pure_of_mut rfl (mut_of_sfun mixedz call81 rfl (p81_0 W h l h2 l2 _) Fb8_z2)
  rw [if_pos e0]
  have hb1:(!decide (cmpI (rankV h.kind) (rankV h2.kind)=0))=false:=by simp [e0]
  by_cases k3:h.kind=3
  ·rw [if_pos k3]
   have hc:=mut_of_pure (by rfl) (ints121 W h.int h2.int)
   exact pure_of_mut rfl (mut_of_sfun mixedz call81 rfl (p81_1 W h l h2 l2 _ _) Fb8_z2)
  rw [if_neg k3]
  by_cases k4:h.kind=4
  ·rw [if_pos k4]
   have hc:=mut_of_pure (by rfl) (str122 W h.text h2.text)
   exact pure_of_mut rfl (mut_of_sfun mixedz call81 rfl (p81_2 W h l h2 l2 _ _) Fb8_z2)
  rw [if_neg k4]
  by_cases k5:h.kind=5
  ·rw [if_pos k5]
   have hc:=mut_of_pure (by rfl) (lists123 W (cmpF n) l l2 (by omega) hf)
   exact pure_of_mut rfl (mut_of_sfun mixedz call81 rfl (p81_3 W h l h2 l2 _ _) Fb8_z2)
  rw [if_neg k5]
  by_cases k6:h.kind=6
  ·rw [if_pos k6]
   have hc:=mut_of_pure (by rfl) (members124 W h l h2 l2 (cmpF n) (by omega) hf)
   exact pure_of_mut rfl (mut_of_sfun mixedz call81 rfl (p81_4 W h l h2 l2 _ _) Fb8_z2)
  rw [if_neg k6]
  exact pure_of_mut rfl (mut_of_sfun mixedz call81 rfl (p81_5 W h l h2 l2 _) Fb8_z2)
end
end Go.Ac

namespace Go.Ac
open Go
section
variable {α:Type} (lt:α->α->Bool)
def mnG (L:List α):Nat->Nat->Nat->Nat
 | 0,m,_=>m
 | k+1,m,i=>mnG L k (if ltAt lt L i m=true then i else m) (i+1)
def selG:Nat->List α->List α
 | 0,_=>[]
 | f+1,L=>match L[mnG lt L (L.length - 1) 0 1]? with
  | some x=>x::selG f (L.take (mnG lt L (L.length - 1) 0 1)++L.drop (mnG lt L (L.length - 1) 0 1+1))
  | none=>[]
variable {lt}
def leastTo (lt:α->α->Bool) (L:List α) (m i:Nat):Prop:=m<i/\∀ x,L[m]?=some x->(∀ k y,k<m->L[k]?=some y->lt x y=true)/\(∀ k y,m<=k->k<i->L[k]?=some y->lt y x=false)
theorem SWO.irr (hw:SWO lt) (x:α):lt x x=false:=by
 cases e:lt x x with
 | false=>rfl
 | true=>have:=hw.asym x x e;rw [e] at this;cases this
theorem mnG_ok (hw:SWO lt) (L:List α):∀ (k m i:Nat),i+k<=L.length->leastTo lt L m i->leastTo lt L (mnG lt L k m i) (i+k)
 | 0,m,i,_,h=>h
 | k+1,m,i,hi,h=>by
  rw [mnG,show i+(k+1)=(i+1)+k by omega]
  obtain ⟨h1,h2⟩:=h
  refine mnG_ok hw L k _ (i+1) (by omega) ?_
  have hy:L[i]?=some L[i]:=by simp
  have hx:L[m]?=some L[m]:=by simp
  rw [ltAt_eq hy hx]
  obtain ⟨g1,g2⟩:=h2 _ hx
  by_cases q:lt L[i] L[m]=true
  ·rw [if_pos q]
   refine ⟨by omega,fun x hx'=>?_⟩
   rw [hy] at hx'
   cases hx'
   refine ⟨fun k' y hk hy'=>?_,fun k' y hk hk2 hy'=>?_⟩
   ·by_cases c1:k'<m
    ·exact hw.tr q (g1 k' y c1 hy')
    ·exact hw.lt_of_lt_le q (g2 k' y (by omega) hk hy')
   ·obtain rfl:k'=i:=by omega
    rw [hy] at hy';cases hy'
    exact hw.irr _
  ·rw [if_neg q]
   refine ⟨by omega,fun x hx'=>?_⟩
   rw [hx] at hx'
   cases hx'
   refine ⟨g1,fun k' y hk hk2 hy'=>?_⟩
   by_cases c1:k'<i
   ·exact g2 k' y hk c1 hy'
   ·obtain rfl:k'=i:=by omega
    rw [hy] at hy';cases hy'
    simpa using q
theorem ins_least (x:α):∀ l:List α,(∀ y ∈ l,lt y x=false)->insS lt x l=x::l
 | [],_=>rfl
 | y::l,h=>by rw [insS,if_neg (by rw [h y (by simp)];simp)]
theorem sort_min (hw:SWO lt) (A B:List α) (x:α) (hA:∀ y ∈ A,lt x y=true) (hB:∀ y ∈ B,lt y x=false):sortS lt (A++x::B)=x::sortS lt (A++B):=by
 rw [sort_app hw,sort_app hw,sortS,ins_least x _ fun y hy=>hB y ((sort_mem B y).1 hy)]
 cases hs:sortS lt A with
 | nil=>rw [nil_mg,nil_mg]
 | cons a S =>
  have ha:a ∈ A:=(sort_mem A a).1 (by rw [hs];simp)
  rw [mg_cons,if_pos (hA a ha)]
theorem selG_ok (hw:SWO lt):∀ (f:Nat) (L:List α),L.length<=f->selG lt f L=sortS lt L
 | 0,L,h=>by rw [List.length_eq_zero_iff.1 (show L.length=0 by omega)];rfl
 | f+1,[],_=>by rw [selG];rfl
 | f+1,a::L,h=>by
  rw [selG]
  have h0:leastTo lt (a::L) 0 1:=⟨by omega,fun x hx=>⟨fun k y hk=>by omega,fun k y hk hk2 hy=>by
   obtain rfl:k=0:=by omega
   rw [hx] at hy;cases hy;exact hw.irr _⟩⟩
  obtain ⟨h1,h2⟩:=mnG_ok hw (a::L) ((a::L).length - 1) 0 1 (by simp only [List.length_cons];omega) h0
  generalize mnG lt (a::L) ((a::L).length - 1) 0 1=m at *
  have hl:1+((a::L).length - 1)=(a::L).length:=by simp only [List.length_cons];omega
  rw [hl] at h1 h2
  have hx:(a::L)[m]?=some (a::L)[m]:=by simp
  rw [hx]
  obtain ⟨g1,g2⟩:=h2 _ hx
  generalize (a::L)[m]=x at *
  generalize a::L=l at *
  simp only
  have e:l=l.take m++x::l.drop (m+1):=by
   have:=List.drop_eq_getElem_cons (l:=l) h1
   rw [show l[m]=x from by have:=List.getElem?_eq_getElem h1;rw [hx] at this;exact (Option.some.inj this).symm] at this
   rw [<-this,List.take_append_drop]
  rw [selG_ok hw f _ (by rw [List.length_append,List.length_take,List.length_drop];omega)]
  conv=>rhs;rw [e]
  rw [sort_min hw]
  ·intro y hy
   obtain ⟨k,hk⟩:=List.mem_iff_getElem?.1 hy
   have hk2:=(List.getElem?_eq_some_iff.1 hk).1
   rw [List.length_take] at hk2
   rw [List.getElem?_take,if_pos (by omega)] at hk
   exact g1 k y (by omega) hk
  ·intro y hy
   obtain ⟨k,hk⟩:=List.mem_iff_getElem?.1 hy
   have hk2:=(List.getElem?_eq_some_iff.1 hk).1
   rw [List.length_drop] at hk2
   rw [List.getElem?_drop] at hk
   exact g2 (m+1+k) y (by omega) (by omega) hk
end
end Go.Ac

namespace Go.Ac
open Go
section
variable {P:Program} {W:World} {f:FuncId}
theorem mut_nameA {k1 k2 n c:Nat} {e:TypeId} {x y:List AV} {r:AV} {rest:List AV} (hk2:100000<=k2) (hxf:cloL (flats x)=true) (hyf:cloL (flats y)=true) (hr:r.clo=true) (hrest:cloL rest=true)
 (h:MutC P W f (.gs k1 0 n::rest) [(k1,.arr e c x .own)] (.ret r [(k1,.arr e c y .own)])):MutC P W f (.gs k2 0 n::rest) [(k2,.arr e c x .own)] (.ret r [(k2,.arr e c y .own)]):=by
 intro β I w vs hw hlB hi hR
 have hlb:∀ b,lentB (fun _=>β k2) [(k1,.arr e c x .own)] b->lentB β [(k2,.arr e c x .own)] b:=by
  rintro b ⟨k,g,hk,hb,hs,he⟩
  obtain ⟨_,rfl⟩:=hg_one hk
  exact ⟨k2,_,hg_self,hb,hs,he⟩
 have hlb':∀ b,lentB β [(k2,.arr e c x .own)] b->lentB (fun _=>β k2) [(k1,.arr e c x .own)] b:=by
  rintro b ⟨k,g,hk,hb,hs,he⟩
  obtain ⟨rfl,rfl⟩:=hg_one hk
  exact ⟨k1,_,hg_self,hb,hs,he⟩
 have hi1:Inv (fun _=>β k2) I (hg [(k1,.arr e c x .own)]) w.heap:=by
  refine ⟨fun k g hk=>?_,hi.imm,fun k k' g g' hne h1 h2=>?_⟩
  ·obtain ⟨_,rfl⟩:=hg_one hk
   obtain ⟨g1,g2,g3,g4⟩:=hi.ge k2 _ hg_self
   refine ⟨g1,g2,g3,?_⟩
   rcases g4 with g4|⟨j1,us,j2,j3,j4,j5,j6,j7,j8⟩
   ·exact .inl g4
   ·exact .inr ⟨j1,us,j2,j3,j4,(j5.clo hxf).closed (fun b hb=>⟨hb,rfl⟩) rfl true,j6,j7,j8⟩
  ·obtain ⟨rfl,_⟩:=hg_one h1
   obtain ⟨rfl,_⟩:=hg_one h2
   exact absurd rfl hne
 have hR1:RL (fun _=>β k2) (dom (hg [(k1,.arr e c x .own)])) I w.heap true (.gs k1 0 n::rest) vs:=by
  cases hR with
  | cons h1 h2 =>
   refine .cons ?_ ((h2.clo hrest).closed (fun b hb=>⟨hb,rfl⟩) rfl true)
   cases h1 with
   | gs hD q1 q2 q3=>exact .gs (β:=fun _=>β k2) (k:=k1) (i:=0) (show dom (hg [(k1,GE.arr e c x .own)]) k1 by simp [dom,hg]) q1 q2 q3
 refine (h _ I w vs hw (fun b hb=>hlB b (hlb b hb)) hi1 hR1).mono fun e1 w' ⟨β',I',v,q1,q2,q3,q4⟩=>?_
 obtain ⟨f1,f2,f3,f4,f5,f6,f7,f8,f9⟩:=q4
 have hp:=(f9 k1 (β k2) (by simp [lentE,hg])).2.2
 obtain ⟨g1,g2,g3,g4⟩:=q3.ge k1 _ hg_self
 rw [hp] at g1 g4
 refine ⟨β,I',v,q1,(q2.clo hr).closed (fun b hb=>⟨hb,rfl⟩) rfl true,⟨fun k g hk=>?_,q3.imm,fun k k' g g' hne h1 h2=>?_⟩,⟨f1,f2,f3,f4,(fun b hb hn=>f5 b hb fun hl=>hn (hlb b hl)),f6,(fun b hb hlt=>(f7 b hb hlt).imp id (hlb b)),(fun k g hk hbk hs=>?_),fun k p hk=>?_⟩⟩
 ·obtain ⟨rfl,rfl⟩:=hg_one hk
  refine ⟨g1,g2,g3,?_⟩
  rcases g4 with g4|⟨j1,us,j2,j3,j4,j5,j6,j7,j8⟩
  ·exact .inl g4
  ·exact .inr ⟨j1,us,j2,j3,j4,(j5.clo hyf).closed (fun b hb=>⟨hb,rfl⟩) rfl true,j6,j7,j8⟩
 ·obtain ⟨rfl,_⟩:=hg_one h1
  obtain ⟨rfl,_⟩:=hg_one h2
  exact absurd rfl hne
 ·obtain ⟨rfl,rfl⟩:=hg_one hk
  have:=f8 k1 _ hg_self (show (β' k1).z ≠ 0 by rw [hp];exact hbk) hs
  rw [hp] at this
  exact this.imp id (hlb _)
 ·have hk':(if (hg [(k2,GE.arr e c x .own)] k).isSome=true then some (β k) else none)=some p:=hk
  split at hk'
  ·rename_i hs
   obtain ⟨g,hgk⟩:=Option.isSome_iff_exists.1 hs
   obtain ⟨rfl,_⟩:=hg_one hgk
   cases hk'
   exact ⟨hk2,by show (hg [(_,GE.arr e c y .own)] _).isSome=true;rw [hg_self];rfl,rfl⟩
  ·cases hk'
end
end Go.Ac

namespace Go.Ac
open Go
end Go.Ac

namespace Go.Proofs
open Go.RowKit Go.Shelf
attribute [local go_sem] Oper.semAt_some
set_option maxRecDepth 100000
set_option maxHeartbeats 1000000
theorem Tryz.all78_in (F:Fence) (n:Nat) (h6:F.fn 78) (hro:F.round=none) (a:Option Addr) (len cap:Nat) (w:World) :
 CallsIn F n Tryz.prog 78 #[.slice a len cap] w fun e w'=>e=.returned (.func (.func 98) #[] #[.pointer (some ⟨w.heap.size,0,none⟩)])/\w'=w.alloc (.cells #[.slice a len cap] 23):=by
 refine callsIn_of_wp Tryz.func78 rfl h6 ?_ hro
 simp only [Tryz.ntmps78,List.size_toArray,List.length_cons,List.length_nil,Nat.reduceAdd,Nat.reduceSub,Array.replicate_succ,Array.replicate_zero,List.push_toArray,List.append_toArray,List.nil_append,List.cons_append]
 gi_wp2
 go_ret
 exact ⟨rfl,rfl⟩
end Go.Proofs

namespace Go.Proofs
open Go.RowKit Go.Shelf
attribute [local go_sem] Oper.semAt_some
set_option maxRecDepth 100000
set_option maxHeartbeats 1000000
theorem Tryz.all98_in (F:Fence) (n:Nat) (h8:F.fn 98) (hro:F.round=none) (hn:1<=n) (l Bs n₀ b off cap:Nat) (k0 k1:Int) (s2:ByteArray) (a3:Option Addr) (l3 p3:Nat) (a4:Option Addr) (l4 p4:Nat) (hb:b<n₀) (J Jx:List Unit->World->Prop)
 (hY:∀ pre x W,J pre W->pre.length<1->YieldAt F (n - 1) Tryz.prog l #[.int .i64 0,.agg #[.int .i64 k0,.int .i64 k1,.string s2,.slice a3 l3 p3,.slice a4 l4 p4]] W fun e W' =>
  (e=.returned (.bool true)/\J (pre++[x]) W'/\Below n₀ W W')\/(e=.returned (.bool false)/\Jx (pre++[x]) W'))
 (hJa:∀ pre W o,J pre W->Below n₀ W (W.alloc o)->J pre (W.alloc o))
 (W:World) (hn₀:n₀<=W.heap.size) (hBs:W.cell? ⟨Bs,0,none⟩=some (.slice (some ⟨b,off,none⟩) 1 cap))
 (hc0:W.cell? ⟨b,off,none⟩=some (.int .i64 k0)) (hc1:W.cell? ⟨b,off+1,none⟩=some (.int .i64 k1)) (hc2:W.cell? ⟨b,off+2,none⟩=some (.string s2)) (hc3:W.cell? ⟨b,off+3,none⟩=some (.slice a3 l3 p3)) (hc4:W.cell? ⟨b,off+4,none⟩=some (.slice a4 l4 p4)) (h0:J [] W) :
 CallsIn F n Tryz.prog 98 #[.func (.yield l) #[] #[],.pointer (some ⟨Bs,0,none⟩)] W fun e W'=>(∃ v,e=.returned v) ∧
  ((∃ ys,ys.length=1/\J ys W')\/(∃ pre,pre.length<=1/\Jx pre W')):=by
 refine callsIn_of_wp Tryz.func98 rfl h8 ?_ hro
 simp only [Tryz.ntmps98,List.size_toArray,List.length_cons,List.length_nil,Nat.reduceAdd,Nat.reduceSub,Array.replicate_succ,Array.replicate_zero,List.push_toArray,List.append_toArray,List.nil_append,List.cons_append]
 gi_wp2
 gi_loopw [7] (fun i wr=>∃ pre:List Unit,pre.length<=1/\i=.int .i64 pre.length/\J pre wr/\Below n₀ W wr)
  (fun i _=>1 - (intOf i).toNat)
 case atStart=>exact ⟨[],Nat.zero_le _,rfl,h0,Below.refl _ _⟩
 case round =>
  obtain ⟨pre,hk,rfl,hJs,hnx⟩:=hrel
  have e0:wr.cell? ⟨b,off,none⟩=some (.int .i64 k0):=(hnx.cell (p:=⟨b,off,none⟩) hb).trans hc0
  have e1:wr.cell? ⟨b,off+1,none⟩=some (.int .i64 k1):=(hnx.cell (p:=⟨b,off+1,none⟩) hb).trans hc1
  have e2:wr.cell? ⟨b,off+2,none⟩=some (.string s2):=(hnx.cell (p:=⟨b,off+2,none⟩) hb).trans hc2
  have e3:wr.cell? ⟨b,off+3,none⟩=some (.slice a3 l3 p3):=(hnx.cell (p:=⟨b,off+3,none⟩) hb).trans hc3
  have e4:wr.cell? ⟨b,off+4,none⟩=some (.slice a4 l4 p4):=(hnx.cell (p:=⟨b,off+4,none⟩) hb).trans hc4
  by_cases hlt:pre.length<1
  ·obtain rfl:pre=[]:=List.length_eq_zero_iff.1 (by omega)
   obtain ⟨fn,tmps,assign,body,hy,hR⟩:=hY _ () (wr.alloc (.cells #[.int .i64 k0,.int .i64 k1,.string s2,.slice a3 l3 p3,.slice a4 l4 p4] 25)) (hJa _ _ _ hJs ((Below.refl _ _).alloc (Nat.le_trans hn₀ hnx.size) _)) hlt
   gi_wp2
   refine hR.mono ?_
   rintro e W3 (⟨rfl,hJ3,hk3⟩|⟨rfl,hJx3⟩)
   ·gi_wp2
    go_roundw
    case rel=>exact ⟨[()],by simp,by simp,hJ3,hnx.trans (((Below.refl _ _).alloc (Nat.le_trans hn₀ hnx.size) _).trans hk3)⟩
    case measure=>simp [intOf]
   ·gi_wp2
    refine bodyPost_ret (results_none rfl _ _ _) rfl ?_
    exact ⟨⟨_,rfl⟩,.inr ⟨[()],by simp,hJx3⟩⟩
  ·obtain h1:pre.length=1:=by omega
   gi_wp2
   go_end0
   exact ⟨⟨_,rfl⟩,.inl ⟨_,h1,hJs⟩⟩
end Go.Proofs

namespace Go.Proofs
open Go.RowKit Go.Shelf
theorem Tryz.all98_stops (F:Fence) (n:Nat) (h8:F.fn 98) (hro:F.round=none) (hn:1<=n) (Bs n₀ b off cap:Nat) (k0 k1:Int) (s2:ByteArray) (a3:Option Addr) (l3 p3:Nat) (a4:Option Addr) (l4 p4:Nat) (hb:b<n₀)
 (w:World) (hBs:Bs<w.heap.size) (hn₀:n₀<=w.heap.size) (hc:w.cell? ⟨Bs,0,none⟩=some (.slice (some ⟨b,off,none⟩) 1 cap))
 (hc0:w.cell? ⟨b,off,none⟩=some (.int .i64 k0)) (hc1:w.cell? ⟨b,off+1,none⟩=some (.int .i64 k1)) (hc2:w.cell? ⟨b,off+2,none⟩=some (.string s2)) (hc3:w.cell? ⟨b,off+3,none⟩=some (.slice a3 l3 p3)) (hc4:w.cell? ⟨b,off+4,none⟩=some (.slice a4 l4 p4)) :
 SeqStopsK F n Tryz.prog 98 #[.pointer (some ⟨Bs,0,none⟩)] (fun _:Unit=>#[Value.int .i64 0,.agg #[.int .i64 k0,.int .i64 k1,.string s2,.slice a3 l3 p3,.slice a4 l4 p4]]) (Below n₀) (fun ys=>ys.length=1) (fun pre=>pre.length<=1) 1 w:=fun l J Jx W hW hJ _ hY h0=>by
 have hbw:b<w.heap.size:=Nat.lt_of_lt_of_le hb hn₀
 exact Tryz.all98_in F n h8 hro hn l Bs n₀ b off cap k0 k1 s2 a3 l3 p3 a4 l4 p4 hb J Jx hY
  (fun pre W o hs _=>hJ _ _ _ none hs (World.grownBy_alloc W o none) (fun r e=>by cases e)) W (Nat.le_trans hn₀ hW.size)
  ((hW.cell (p:=⟨Bs,0,none⟩) hBs).trans hc) ((hW.cell (p:=⟨b,off,none⟩) hbw).trans hc0) ((hW.cell (p:=⟨b,off+1,none⟩) hbw).trans hc1) ((hW.cell (p:=⟨b,off+2,none⟩) hbw).trans hc2) ((hW.cell (p:=⟨b,off+3,none⟩) hbw).trans hc3) ((hW.cell (p:=⟨b,off+4,none⟩) hbw).trans hc4) h0
end Go.Proofs

namespace Go.Proofs
open Go.RowKit Go.Shelf
attribute [local go_sem] Oper.semAt_some
set_option maxRecDepth 100000
set_option maxHeartbeats 4000000
def BoxF (W:World) (B:Nat) (t:TypeId) (cs:Array Value):Prop:=W.heap[B]?=some (.cells cs t (0,0))
theorem BoxF.lt {W:World} {B:Nat} {t:TypeId} {cs:Array Value} (h:BoxF W B t cs):B<W.heap.size:=(Array.getElem?_eq_some_iff.1 h).1
theorem BoxF.new (W:World) (t:TypeId) (cs:Array Value):BoxF (W.alloc (.cells cs t)) W.heap.size t cs:=World.alloc_heap_new W _
theorem BoxF.kept {W W':World} {row:Option Nat} {B:Nat} {t:TypeId} {cs:Array Value} (h:BoxF W B t cs) (hg:W.grownBy W' row) (hne:some B ≠ row):BoxF W' B t cs:=(hg.block B h.lt hne).trans h
theorem BoxF.alloc {W:World} {B:Nat} {t:TypeId} {cs:Array Value} (h:BoxF W B t cs) (o:Obj):BoxF (W.alloc o) B t cs:=h.kept (World.grownBy_alloc W o none) (by simp)
theorem boxF_own {β:Type} (B:Nat) (t:TypeId) (f:β->Array Value):Own (fun s W=>BoxF W B t (f s)):=fun s X Y row hs hg hrow =>
 hs.kept hg (fun e'=>by obtain ⟨o,ho,hc⟩:=hrow B e'.symm;rw [show X.heap[B]?=_ from hs] at ho;cases ho;cases hc)
theorem BoxF.cells {W:World} {B:Nat} {t:TypeId} {c0 c1 c2 c3 c4:Value} (h:BoxF W B t #[c0,c1,c2,c3,c4]) :
 W.cell? ⟨B,0,none⟩=some c0/\W.cell? ⟨B,1,none⟩=some c1/\W.cell? ⟨B,2,none⟩=some c2/\W.cell? ⟨B,3,none⟩=some c3/\W.cell? ⟨B,4,none⟩=some c4:=by
 have h':W.heap[B]?=_:=h
 refine ⟨?_,?_,?_,?_,?_⟩<;>simp [World.cell?,h']
theorem BoxF.frozen {W:World} {B:Nat} {t:TypeId} {c0 c1 c2 c3 c4:Value} (h:BoxF W B t #[c0,c1,c2,c3,c4]) :
 W.frozen? ⟨B,0,none⟩=false/\W.frozen? ⟨B,1,none⟩=false/\W.frozen? ⟨B,2,none⟩=false/\W.frozen? ⟨B,3,none⟩=false/\W.frozen? ⟨B,4,none⟩=false:=by
 have h':W.heap[B]?=_:=h
 refine ⟨?_,?_,?_,?_,?_⟩<;>simp [World.frozen?,h']
theorem BoxF.set {W:World} {B:Nat} {t:TypeId} {cs:Array Value} (h:BoxF W B t cs) (i:Nat) (v:Value):BoxF (W.setCell ⟨B,i,none⟩ v) B t (cs.setIfInBounds i v):=by
 obtain ⟨hlt,hk⟩:=Array.getElem?_eq_some_iff.1 h
 show (W.heap.modify B _)[B]?=_
 rw [Array.getElem?_eq_getElem (by rw [Array.size_modify];exact hlt),Array.getElem_modify_self,hk]
 rfl
theorem BoxF.otherP {W:World} {B:Nat} {t:TypeId} {cs:Array Value} (h:BoxF W B t cs) (p:Addr) (hne:B ≠ p.block) (u:Value):BoxF (W.setCell p u) B t cs:=(Below.heap_setCell W p u B hne).trans h
theorem boxedP {W:World} {B:Nat} {t:TypeId} {v:Value} (h:Boxed W B t v) (p:Addr) (hne:B ≠ p.block) (u:Value):Boxed (W.setCell p u) B t v:=(Below.heap_setCell W p u B hne).trans h
theorem stores7 {W:World} {s:Nat} {a b:Value} {cs:Array Value} (v0 c0 c1 c2 c3 c4 v6:Value) (hA:Boxed W (s+1) 3 a) (hY:Boxed W (s+1+1) 4 b) (hB:BoxF W (s+1+1+1) 25 cs) (W':World)
 (hW:W'=(((((((W.setCell ⟨s+1,0,none⟩ v0).setCell ⟨s+1+1+1,0,none⟩ c0).setCell ⟨s+1+1+1,1,none⟩ c1).setCell ⟨s+1+1+1,2,none⟩ c2).setCell ⟨s+1+1+1,3,none⟩ c3).setCell ⟨s+1+1+1,4,none⟩ c4).setCell ⟨s+1+1,0,none⟩ v6).drew) :
 KeepsOthers W W'/\(∀ n₀,n₀<=s->Below n₀ W W')/\Boxed W' (s+1) 3 v0/\Boxed W' (s+1+1) 4 v6/\∃ cs',BoxF W' (s+1+1+1) 25 cs':=by
 have e1:s+1 ≠ s+1+1+1:=by omega
 have e2:s+1 ≠ s+1+1:=by omega
 have e3:s+1+1 ≠ s+1+1+1:=by omega
 have k1:=hA.set v0
 have k2:=boxedP hY ⟨s+1,0,none⟩ (Ne.symm e2) v0
 have k3:=hB.otherP ⟨s+1,0,none⟩ (Ne.symm e1) v0
 generalize hx0:W.setCell ⟨s+1,0,none⟩ v0=x0 at *
 have k1:=boxedP k1 ⟨s+1+1+1,0,none⟩ e1 c0
 have k2:=boxedP k2 ⟨s+1+1+1,0,none⟩ e3 c0
 have k3:=k3.set 0 c0
 generalize hx1:x0.setCell ⟨s+1+1+1,0,none⟩ c0=x1 at *
 have k1:=boxedP k1 ⟨s+1+1+1,1,none⟩ e1 c1
 have k2:=boxedP k2 ⟨s+1+1+1,1,none⟩ e3 c1
 have k3:=k3.set 1 c1
 generalize hx2:x1.setCell ⟨s+1+1+1,1,none⟩ c1=x2 at *
 have k1:=boxedP k1 ⟨s+1+1+1,2,none⟩ e1 c2
 have k2:=boxedP k2 ⟨s+1+1+1,2,none⟩ e3 c2
 have k3:=k3.set 2 c2
 generalize hx3:x2.setCell ⟨s+1+1+1,2,none⟩ c2=x3 at *
 have k1:=boxedP k1 ⟨s+1+1+1,3,none⟩ e1 c3
 have k2:=boxedP k2 ⟨s+1+1+1,3,none⟩ e3 c3
 have k3:=k3.set 3 c3
 generalize hx4:x3.setCell ⟨s+1+1+1,3,none⟩ c3=x4 at *
 have k1:=boxedP k1 ⟨s+1+1+1,4,none⟩ e1 c4
 have k2:=boxedP k2 ⟨s+1+1+1,4,none⟩ e3 c4
 have k3:=k3.set 4 c4
 generalize hx5:x4.setCell ⟨s+1+1+1,4,none⟩ c4=x5 at *
 have k1:=boxedP k1 ⟨s+1+1,0,none⟩ e2 v6
 have k2:=k2.set v6
 have k3:=k3.otherP ⟨s+1+1,0,none⟩ (Ne.symm e3) v6
 generalize hx6:x5.setCell ⟨s+1+1,0,none⟩ v6=x6 at *
 subst hW
 refine ⟨?_,?_,k1,k2,_,k3⟩
 ·subst hx0 hx1 hx2 hx3 hx4 hx5 hx6
  exact (((((((KeepsOthers.setCell W _ _).trans (KeepsOthers.setCell _ _ _)).trans (KeepsOthers.setCell _ _ _)).trans (KeepsOthers.setCell _ _ _)).trans (KeepsOthers.setCell _ _ _)).trans (KeepsOthers.setCell _ _ _)).trans (KeepsOthers.setCell _ _ _)).trans (KeepsOthers.drew _)
 ·intro n₀ hn
  subst hx0 hx1 hx2 hx3 hx4 hx5 hx6
  have q0:n₀<=s+1:=by omega
  have q1:n₀<=s+1+1:=by omega
  have q2:n₀<=s+1+1+1:=by omega
  exact ((((((((Below.refl n₀ W).setCell q0 _).setCell q2 _).setCell q2 _).setCell q2 _).setCell q2 _).setCell q2 _).setCell q1 _).drew
theorem boxE_own {β:Type} (B:Nat) (t:TypeId) (G:β->Array Value->Prop):Own (fun s W=>∃ cs,BoxF W B t cs/\G s cs):=fun s X Y row hs hg hrow=>by
 obtain ⟨cs,h1,h2⟩:=hs
 exact ⟨cs,boxF_own B t (fun (_:Unit)=>cs) () X Y row h1 hg hrow,h2⟩
theorem Tryz.chosen77_in (F:Fence) (n:Nat) (h77:F.fn 77) (h98:F.fn 98) (hro:F.round=none) (hn:3<=n) (g:Nat) (Bs n₀ b off cap:Nat) (k0 k1:Int) (s2:ByteArray) (a3:Option Addr) (l3 p3:Nat) (a4:Option Addr) (l4 p4:Nat) (hb:b<n₀)
 (w:World) (hBs:Bs<w.heap.size) (hn₀:n₀<=w.heap.size) (hc:w.cell? ⟨Bs,0,none⟩=some (.slice (some ⟨b,off,none⟩) 1 cap))
 (hc0:w.cell? ⟨b,off,none⟩=some (.int .i64 k0)) (hc1:w.cell? ⟨b,off+1,none⟩=some (.int .i64 k1)) (hc2:w.cell? ⟨b,off+2,none⟩=some (.string s2)) (hc3:w.cell? ⟨b,off+3,none⟩=some (.slice a3 l3 p3)) (hc4:w.cell? ⟨b,off+4,none⟩=some (.slice a4 l4 p4)) :
 CallsIn F n Tryz.prog 77 #[.func (.func 98) #[] #[.pointer (some ⟨Bs,0,none⟩)],.func (.func g) #[] #[]] w fun e W'=>e=.returned (.tuple #[.int .i64 0,.bool true])/\Below w.heap.size w W':=by
 have h1:1<=n:=by omega
 refine callsIn_of_wp_marks Tryz.func77 rfl h77 ?_ hro
 simp only [Tryz.ntmps77,List.size_toArray,List.length_cons,List.length_nil,Nat.reduceAdd,Nat.reduceSub,Array.replicate_succ,Array.replicate_zero,List.push_toArray,List.append_toArray,List.nil_append,List.cons_append]
 gi_wp2
 have bG:=(((Boxed.new w 48 (.func (.func g) #[] #[])).alloc (.cells #[.int .i64 0] 3)).alloc (.cells #[.bool false] 4)).alloc (.cells #[Value.int IntKind.i64 0,Value.int IntKind.i64 0,Value.string ⟨#[]⟩,Value.slice none 0 0,Value.slice none 0 0] 25)
 have bA:=((Boxed.new (w.alloc (.cells #[.func (.func g) #[] #[]] 48)) 3 (.int .i64 0)).alloc (.cells #[.bool false] 4)).alloc (.cells #[Value.int IntKind.i64 0,Value.int IntKind.i64 0,Value.string ⟨#[]⟩,Value.slice none 0 0,Value.slice none 0 0] 25)
 have bY:=(Boxed.new ((w.alloc (.cells #[.func (.func g) #[] #[]] 48)).alloc (.cells #[.int .i64 0] 3)) 4 (.bool false)).alloc (.cells #[Value.int IntKind.i64 0,Value.int IntKind.i64 0,Value.string ⟨#[]⟩,Value.slice none 0 0,Value.slice none 0 0] 25)
 have bB:=BoxF.new (((w.alloc (.cells #[.func (.func g) #[] #[]] 48)).alloc (.cells #[.int .i64 0] 3)).alloc (.cells #[.bool false] 4)) 25 #[Value.int IntKind.i64 0,Value.int IntKind.i64 0,Value.string ⟨#[]⟩,Value.slice none 0 0,Value.slice none 0 0]
 simp only [World.size_alloc] at bA bY bB
 have hB0:Below w.heap.size w ((((w.alloc (.cells #[.func (.func g) #[] #[]] 48)).alloc (.cells #[.int .i64 0] 3)).alloc (.cells #[.bool false] 4)).alloc (.cells #[Value.int IntKind.i64 0,Value.int IntKind.i64 0,Value.string ⟨#[]⟩,Value.slice none 0 0,Value.slice none 0 0] 25)) :=
  ((((Below.refl _ w).alloc (Nat.le_refl _) _).alloc (by simp) _).alloc (by simp;omega) _).alloc (by simp;omega) _
 have hsz:((((w.alloc (.cells #[.func (.func g) #[] #[]] 48)).alloc (.cells #[.int .i64 0] 3)).alloc (.cells #[.bool false] 4)).alloc (.cells #[Value.int IntKind.i64 0,Value.int IntKind.i64 0,Value.string ⟨#[]⟩,Value.slice none 0 0,Value.slice none 0 0] 25)).heap.size=w.heap.size+4:=by simp
 obtain ⟨W0,hW0⟩:∃ W0,((((w.alloc (.cells #[.func (.func g) #[] #[]] 48)).alloc (.cells #[.int .i64 0] 3)).alloc (.cells #[.bool false] 4)).alloc (.cells #[Value.int IntKind.i64 0,Value.int IntKind.i64 0,Value.string ⟨#[]⟩,Value.slice none 0 0,Value.slice none 0 0] 25))=W0:=⟨_,rfl⟩
 rw [hW0] at bG bA bY bB hB0 hsz ⊢
 clear hW0
 have hbs:b<w.heap.size:=Nat.lt_of_lt_of_le hb hn₀
 refine wpIn_rangeFunc_ownH hro h1 (gf:=98) (lb:=#[.pointer (some ⟨Bs,0,none⟩)]) rfl h98 (enters_of Tryz.func98 (by kernel_rfl) rfl)
  (Tryz.all98_stops F (n - 1) h98 hro (by omega) Bs n₀ b off cap k0 k1 s2 a3 l3 p3 a4 l4 p4 hb W0 (by omega) (by omega) ((hB0.cell (p:=⟨Bs,0,none⟩) hBs).trans hc)
   ((hB0.cell (p:=⟨b,off,none⟩) hbs).trans hc0) ((hB0.cell (p:=⟨b,off+1,none⟩) hbs).trans hc1) ((hB0.cell (p:=⟨b,off+2,none⟩) hbs).trans hc2) ((hB0.cell (p:=⟨b,off+3,none⟩) hbs).trans hc3) ((hB0.cell (p:=⟨b,off+4,none⟩) hbs).trans hc4))
  belowK_t (belowK_b (by omega)) (Below.refl _ _) (fun _=>rfl)
  (fun pre W=>((Boxed W (w.heap.size+1) 3 (.int .i64 0)/\Boxed W (w.heap.size+1+1) 4 (.bool (!pre.isEmpty)))/\(∃ cs,BoxF W (w.heap.size+1+1+1) 25 cs/\(pre=[]->cs=#[Value.int IntKind.i64 0,Value.int IntKind.i64 0,Value.string ⟨#[]⟩,Value.slice none 0 0,Value.slice none 0 0])))/\Below w.heap.size w W)
  (fun _ _ _=>False)
  (OwnFrom.and (OwnFrom.and (OwnFrom.and (Own.from (boxed_own _ _ _) _) (Own.from (boxed_own _ _ _) _)) (Own.from (boxE_own _ _ _) _)) (ownFrom_below (Nat.le_refl _) (by omega)))
  (fun _ _ _ _ _ hs _ _=>hs)
  ⟨⟨⟨bA,bY⟩,⟨_,bB,fun _=>rfl⟩⟩,hB0⟩
  (fun x a' W=>∃ Bx,w.heap.size+1+1+1<Bx/\BoxF W Bx 25 #[.int .i64 k0,.int .i64 k1,.string s2,.slice a3 l3 p3,.slice a4 l4 p4]/\a'={tmps:=#[.func (.func 98) #[] #[.pointer (some ⟨Bs,0,none⟩)],.func (.func g) #[] #[],undef,.pointer (some ⟨w.heap.size,0,none⟩),.int .i64 0,.bool false,.pointer (some ⟨w.heap.size+1,0,none⟩),.pointer (some ⟨w.heap.size+1+1,0,none⟩),.pointer (some ⟨w.heap.size+1+1+1,0,none⟩),.int .i64 0,.pointer (some ⟨Bx,0,none⟩),.func (.func 98) #[] #[.pointer (some ⟨Bs,0,none⟩)],.int .i64 0,.agg #[.int .i64 k0,.int .i64 k1,.string s2,.slice a3 l3 p3,.slice a4 l4 p4],undef,undef,undef,undef,undef,undef,undef,undef,undef,undef,undef,undef],defers:=[]})
  (fun x a' _ X Y row hs hg hr=>by obtain ⟨Bx,h1,h2,h3⟩:=hs;exact ⟨Bx,h1,boxF_own Bx 25 (fun (_:Unit)=>#[.int .i64 k0,.int .i64 k1,.string s2,.slice a3 l3 p3,.slice a4 l4 p4]) () X Y row h2 hg (fun r e=>(hr r e).2),h3⟩)
  ?assign ?body ?done ?stop
 case assign =>
  rintro l pre x W K ⟨⟨⟨bA1,bY1⟩,⟨cs,bB1,bB2⟩⟩,hB1⟩ hK
  gi_wp2
  exact hK _ _ ((KeepsOthers.alloc _ _).from _) ((Below.refl _ W).alloc (Nat.le_trans hn₀ hB1.size) _) ⟨⟨⟨bA1.alloc _,bY1.alloc _⟩,⟨cs,bB1.alloc _,bB2⟩⟩,hB1.alloc hB1.size _⟩ ⟨W.heap.size,bB1.lt,BoxF.new W 25 _,rfl⟩
 case body =>
  rintro l pre x a' W hl ⟨r,hr⟩ ⟨⟨⟨bA1,bY1⟩,⟨cs,bB1,bB2⟩⟩,hB1⟩ ⟨Bx,hBx,bX,rfl⟩ hlt
  obtain rfl:pre=[]:=List.length_eq_zero_iff.1 (by omega)
  obtain rfl:=bB2 rfl
  have cA:=bA1.cell
  have fA:=bA1.frozen
  have cY:=bY1.cell
  have fY:=bY1.frozen
  obtain ⟨x0,x1,x2,x3,x4⟩:=bX.cells
  obtain ⟨y0,y1,y2,y3,y4⟩:=BoxF.cells (c0:=.int .i64 0) bB1
  obtain ⟨f0,f1,f2,f3,f4⟩:=BoxF.frozen (c0:=.int .i64 0) bB1
  simp only [List.isEmpty_nil,Bool.not_true] at cY
  gi_wp2
  all_goals (refine ⟨fun _ h=>(by cases h),?_⟩)
  all_goals gi_wp2
  gi_region
  all_goals gi_wp2
  all_goals (
   obtain ⟨p1,p2,p3,p4,cs',p5⟩:=stores7 (.int .i64 0) (.int .i64 k0) (.int .i64 k1) (.string s2) (.slice a3 l3 p3) (.slice a4 l4 p4) (.bool true) bA1 bY1 bB1 _ rfl
   exact ⟨p1.from _,p2 _ hn₀,⟨⟨p3,p4⟩,⟨cs',p5,fun h=>by cases h⟩⟩,hB1.trans (p2 _ (Nat.le_refl _))⟩)
 case done =>
  rintro D zs W hD hS ⟨⟨⟨bA1,bY1⟩,_⟩,hB1⟩ hK
  have cA:=bA1.cell
  have cY:=bY1.cell
  obtain ⟨z,rfl⟩:∃ z,zs=[z]:=List.length_eq_one_iff.1 hS
  simp only [List.isEmpty_cons,Bool.not_false] at cY
  gi_wp2
  gi_region
  all_goals gi_wp2
  all_goals (
   have hKd:W.drew.heap[D]?=some (.deferred (some [])):=hK
   refine ⟨by simp,.inl ⟨_,_,rfl,run_takeDeferred hKd,?_⟩⟩
   refine ⟨.tuple #[.int .i64 0,.bool true],?_,rfl,hB1.drew.trans (belowK_b (w:=w) (Nat.le_refl _) W.drew D _ _ (by omega) hKd rfl rfl)⟩
   simp [results,Tryz.f77,go_sem])
 case stop =>
  rintro D c pre W _ _ h _
  exact h.elim
end Go.Proofs

namespace Go.Proofs
open Go.RowKit Go.Shelf
attribute [local go_sem] Oper.semAt_some
set_option maxRecDepth 100000
set_option maxHeartbeats 400000
theorem Tryz.least46_in (F:Fence) (n:Nat) (h46:F.fn 46) (h78:F.fn 78) (h77:F.fn 77) (h98:F.fn 98) (hro:F.round=none) (hn:4<=n) (b off cap:Nat) (k0 k1:Int) (s2:ByteArray) (a3:Option Addr) (l3 p3:Nat) (a4:Option Addr) (l4 p4:Nat)
 (w:World) (hb:b<w.heap.size)
 (hc0:w.cell? ⟨b,off,none⟩=some (.int .i64 k0)) (hc1:w.cell? ⟨b,off+1,none⟩=some (.int .i64 k1)) (hc2:w.cell? ⟨b,off+2,none⟩=some (.string s2)) (hc3:w.cell? ⟨b,off+3,none⟩=some (.slice a3 l3 p3)) (hc4:w.cell? ⟨b,off+4,none⟩=some (.slice a4 l4 p4)) :
 CallsIn F n Tryz.prog 46 #[.slice (some ⟨b,off,none⟩) 1 cap] w fun e W'=>e=.returned (.tuple #[.int .i64 0,.bool true])/\Below w.heap.size w W':=by
 have h1:1<=n:=by omega
 have hB0:Below w.heap.size w (w.alloc (.cells #[.slice (some ⟨b,off,none⟩) 1 cap] 23)):=(Below.refl _ w).alloc (Nat.le_refl _) _
 have hsz:(w.alloc (.cells #[.slice (some ⟨b,off,none⟩) 1 cap] 23)).heap.size=w.heap.size+1:=by simp
 have hcb:(w.alloc (.cells #[.slice (some ⟨b,off,none⟩) 1 cap] 23)).cell? ⟨w.heap.size,0,none⟩=some (.slice (some ⟨b,off,none⟩) 1 cap):=(Boxed.new w 23 (.slice (some ⟨b,off,none⟩) 1 cap)).cell
 have hh:=Tryz.chosen77_in F (n - 1) h77 h98 hro (by omega) 79 w.heap.size w.heap.size b off cap k0 k1 s2 a3 l3 p3 a4 l4 p4 hb _ (by omega) (by omega) hcb
  ((hB0.cell (p:=⟨b,off,none⟩) hb).trans hc0) ((hB0.cell (p:=⟨b,off+1,none⟩) hb).trans hc1) ((hB0.cell (p:=⟨b,off+2,none⟩) hb).trans hc2) ((hB0.cell (p:=⟨b,off+3,none⟩) hb).trans hc3) ((hB0.cell (p:=⟨b,off+4,none⟩) hb).trans hc4)
 refine callsIn_of_wp Tryz.func46 rfl h46 ?_ hro
 simp only [Tryz.ntmps46,List.size_toArray,List.length_cons,List.length_nil,Nat.reduceAdd,Nat.reduceSub,Array.replicate_succ,Array.replicate_zero,List.push_toArray,List.append_toArray,List.nil_append,List.cons_append]
 gi_wp2_with (gi_at_call 78;refine (Tryz.all78_in F (n - 1) h78 hro _ _ _ _).mono ?_;rintro e w' ⟨rfl,rfl⟩)
 refine hh.mono ?_
 rintro e w' ⟨rfl,hB⟩
 gi_wp2
 refine bodyPost_ret (v:=.tuple #[.int .i64 0,.bool true]) (by simp [results,Tryz.f46,go_sem]) rfl ?_
 exact ⟨rfl,hB0.trans (hB.mono (by omega))⟩
theorem Tryz.greatest47_in (F:Fence) (n:Nat) (h47:F.fn 47) (h78:F.fn 78) (h77:F.fn 77) (h98:F.fn 98) (hro:F.round=none) (hn:4<=n) (b off cap:Nat) (k0 k1:Int) (s2:ByteArray) (a3:Option Addr) (l3 p3:Nat) (a4:Option Addr) (l4 p4:Nat)
 (w:World) (hb:b<w.heap.size)
 (hc0:w.cell? ⟨b,off,none⟩=some (.int .i64 k0)) (hc1:w.cell? ⟨b,off+1,none⟩=some (.int .i64 k1)) (hc2:w.cell? ⟨b,off+2,none⟩=some (.string s2)) (hc3:w.cell? ⟨b,off+3,none⟩=some (.slice a3 l3 p3)) (hc4:w.cell? ⟨b,off+4,none⟩=some (.slice a4 l4 p4)) :
 CallsIn F n Tryz.prog 47 #[.slice (some ⟨b,off,none⟩) 1 cap] w fun e W'=>e=.returned (.tuple #[.int .i64 0,.bool true])/\Below w.heap.size w W':=by
 have h1:1<=n:=by omega
 have hB0:Below w.heap.size w (w.alloc (.cells #[.slice (some ⟨b,off,none⟩) 1 cap] 23)):=(Below.refl _ w).alloc (Nat.le_refl _) _
 have hsz:(w.alloc (.cells #[.slice (some ⟨b,off,none⟩) 1 cap] 23)).heap.size=w.heap.size+1:=by simp
 have hcb:(w.alloc (.cells #[.slice (some ⟨b,off,none⟩) 1 cap] 23)).cell? ⟨w.heap.size,0,none⟩=some (.slice (some ⟨b,off,none⟩) 1 cap):=(Boxed.new w 23 (.slice (some ⟨b,off,none⟩) 1 cap)).cell
 have hh:=Tryz.chosen77_in F (n - 1) h77 h98 hro (by omega) 80 w.heap.size w.heap.size b off cap k0 k1 s2 a3 l3 p3 a4 l4 p4 hb _ (by omega) (by omega) hcb
  ((hB0.cell (p:=⟨b,off,none⟩) hb).trans hc0) ((hB0.cell (p:=⟨b,off+1,none⟩) hb).trans hc1) ((hB0.cell (p:=⟨b,off+2,none⟩) hb).trans hc2) ((hB0.cell (p:=⟨b,off+3,none⟩) hb).trans hc3) ((hB0.cell (p:=⟨b,off+4,none⟩) hb).trans hc4)
 refine callsIn_of_wp Tryz.func47 rfl h47 ?_ hro
 simp only [Tryz.ntmps47,List.size_toArray,List.length_cons,List.length_nil,Nat.reduceAdd,Nat.reduceSub,Array.replicate_succ,Array.replicate_zero,List.push_toArray,List.append_toArray,List.nil_append,List.cons_append]
 gi_wp2_with (gi_at_call 78;refine (Tryz.all78_in F (n - 1) h78 hro _ _ _ _).mono ?_;rintro e w' ⟨rfl,rfl⟩)
 refine hh.mono ?_
 rintro e w' ⟨rfl,hB⟩
 gi_wp2
 refine bodyPost_ret (v:=.tuple #[.int .i64 0,.bool true]) (by simp [results,Tryz.f47,go_sem]) rfl ?_
 exact ⟨rfl,hB0.trans (hB.mono (by omega))⟩
end Go.Proofs

namespace Go.Ac
open Go Go.Proofs
theorem R.sl_cases {β:Nat->Plc} {D I:Nat->Prop} {H:Array Obj} {m:Bool} {n:Nat} {l:List AV} {v:Value} (h:R β D I H m (.sl n l []) v):∃ a p q,v=.slice a p q:=by
 cases h with
 | sl vs _ _ _ _ _ _ _ _ _ _=>exact ⟨_,_,_,rfl⟩
 | sl0=>exact ⟨_,_,_,rfl⟩
theorem one_read {β:Nat->Plc} {D I:Nat->Prop} {w:World} {x:JV} {v:Value} (hI:∀ b,I b->b<w.heap.size) (h:R β D I w.heap false (.sl 5 [encV x] []) v) :
 ∃ b off cap,∃ (k0 k1:Int) (s2:ByteArray) (a3:Option Addr) (l3 p3:Nat) (a4:Option Addr) (l4 p4:Nat),v=.slice (some ⟨b,off,none⟩) 1 cap/\b<w.heap.size ∧
  w.cell? ⟨b,off,none⟩=some (.int .i64 k0)/\w.cell? ⟨b,off+1,none⟩=some (.int .i64 k1)/\w.cell? ⟨b,off+2,none⟩=some (.string s2)/\w.cell? ⟨b,off+3,none⟩=some (.slice a3 l3 p3)/\w.cell? ⟨b,off+4,none⟩=some (.slice a4 l4 p4):=by
 cases h with
 | @sl m n els rest a cap arr T fz vs hi hs hH hn1 hn2 hcap hmax hv hone harr =>
  obtain ⟨b,off,sp⟩:=a
  cases hs
  rw [show flats [encV x]++flats []=[.val (.int .i64 x.kind),.val (.int .i64 x.int),.str x.text,.sl 1 (x.names.map AV.str) [],.sl 5 (x.items.map encV) []] from by rw [encV_eq];rfl] at hv
  cases hv with
  | cons r0 hv =>
  cases hv with
  | cons r1 hv =>
  cases hv with
  | cons r2 hv =>
  cases hv with
  | cons r3 hv =>
  cases hv with
  | cons r4 hv =>
  cases hv
  cases r0;cases r1;cases r2
  obtain ⟨a3,l3,p3,rfl⟩:=r3.sl_cases
  obtain ⟨a4,l4,p4,rfl⟩:=r4.sl_cases
  have cell:∀ (j:Nat) (u:Value),arr[off+j]?=some u->w.cell? ⟨b,off+j,none⟩=some u:=fun j u hu=>by
   simp only [World.cell?]
   rw [hH]
   simpa using hu
  exact ⟨b,off,cap,_,_,_,a3,l3,p3,a4,l4,p4,rfl,hI b hi,cell 0 _ (harr 0 _ rfl),cell 1 _ (harr 1 _ rfl),cell 2 _ (harr 2 _ rfl),cell 3 _ (harr 3 _ rfl),cell 4 _ (harr 4 _ rfl)⟩
theorem r_chosen {β:Nat->Plc} {D I:Nat->Prop} {H:Array Obj}:R β D I H false (.tup [.val (.int .i64 0),.val (.bool true)]) (.tuple #[.int .i64 0,.bool true]) :=
 .tup (.cons (.val _ _) (.cons (.val _ _) (.nil _)))
theorem pure46 (W:World) (x:JV):Pure Tryz.prog W 46 [.sl 5 [encV x] []] (.tup [.val (.int .i64 0),.val (.bool true)]):=fun β D I w vs hO hI hr=>by
 cases hr with
 | cons r hr =>
 cases hr
 obtain ⟨b,off,cap,k0,k1,s2,a3,l3,p3,a4,l4,p4,rfl,hb,c0,c1,c2,c3,c4⟩:=one_read hI r
 refine (callsIn_wide.1 (Tryz.least46_in Fence.wide 4 trivial trivial trivial trivial rfl (by omega) b off cap k0 k1 s2 a3 l3 p3 a4 l4 p4 w hb c0 c1 c2 c3 c4)).mono ?_
 rintro e W' ⟨rfl,hB⟩
 exact ⟨I,_,rfl,r_chosen,ext_below hB (fun b hb=>hI b hb)⟩
theorem pure47 (W:World) (x:JV):Pure Tryz.prog W 47 [.sl 5 [encV x] []] (.tup [.val (.int .i64 0),.val (.bool true)]):=fun β D I w vs hO hI hr=>by
 cases hr with
 | cons r hr =>
 cases hr
 obtain ⟨b,off,cap,k0,k1,s2,a3,l3,p3,a4,l4,p4,rfl,hb,c0,c1,c2,c3,c4⟩:=one_read hI r
 refine (callsIn_wide.1 (Tryz.greatest47_in Fence.wide 4 trivial trivial trivial trivial rfl (by omega) b off cap k0 k1 s2 a3 l3 p3 a4 l4 p4 w hb c0 c1 c2 c3 c4)).mono ?_
 rintro e W' ⟨rfl,hB⟩
 exact ⟨I,_,rfl,r_chosen,ext_below hB (fun b hb=>hI b hb)⟩
end Go.Ac

set_option maxRecDepth 10000
set_option maxHeartbeats 4000000
namespace Go.Ac
open Go Go.Proofs
def V1 (n:Int):AV:=AV.agg [AV.val (Value.int IntKind.i64 3),AV.val (Value.int IntKind.i64 n),AV.str [],AV.val (Value.slice none 0 0),AV.val (Value.slice none 0 0)]
def C1 (k:Nat) (n:Int):OutC:=.ret (.tup [.val (.int .i64 0),.val (.bool true)]) [(k,GE.arr 25 5 [V1 n] St.own)]
def L6 (n:Int):List (Nat×GE):=[(100045,GE.arr 25 5 [V1 n] St.own)]
theorem v1_le (n:Int):LeL [.sl 5 [V1 n] []] [.sl 5 [encV (.mk ⟨3,n,[],[]⟩ [])] []] :=
 .cons (.els (.cons (.agg (.cons (.refl _) (.cons (.refl _) (.cons (.refl _) (.cons (.nil 1) (.cons (.nil 5) .nil)))))) .nil) (fun e he=>by obtain rfl:=List.mem_singleton.1 he;rfl)) .nil
theorem frz6 (n:Int):∀ p ∈ L6 n,hg (L6 n) p.1=some p.2/\Frzable p.2:=fun p hp=>by
 obtain rfl:=List.mem_singleton.1 hp
 exact ⟨rfl,by first|trivial|exact ⟨rfl,rfl⟩|simp [Frzable]⟩
theorem told46 (W:World) (n:Int):MutC Tryz.prog W 46 [AV.gs 100045 0 1] (L6 n) (C1 100045 n) :=
 mut_of_pureFlat (frz6 n) (by rfl) (by rfl) (by rfl) (pure_le (v1_le n) (pure46 W _))
theorem told47 (W:World) (n:Int):MutC Tryz.prog W 47 [AV.gs 100045 0 1] (L6 n) (C1 100045 n) :=
 mut_of_pureFlat (frz6 n) (by rfl) (by rfl) (by rfl) (pure_le (v1_le n) (pure47 W _))
theorem call9:callable Tryz.prog 9=true:=kr
theorem run9 (W:World):sfun Tryz.prog W {tl:=[46,47]} 1000 30 9 [] [] 100000 [Ans.ev 10000000,Ans.call (C1 100045 2),Ans.ev 10000000,Ans.call (C1 100045 2),Ans.ev 10000000,Ans.call (C1 100045 1),Ans.ev 10000000,Ans.call (C1 100045 1),Ans.ev 10000000] [] =
 .ok (OutC.ret (AV.val (Value.bool true)) [],[Ans.ev 9999866],[MutC Tryz.prog W 47 [AV.gs 100045 0 1] (L6 1) (C1 100045 1),MutC Tryz.prog W 46 [AV.gs 100045 0 1] (L6 1) (C1 100045 1),MutC Tryz.prog W 47 [AV.gs 100045 0 1] (L6 2) (C1 100045 2),MutC Tryz.prog W 46 [AV.gs 100045 0 1] (L6 2) (C1 100045 2)]):=kr
theorem live9 (W:World):Pure Tryz.prog W 9 [] (.val (.bool true)) :=
 pure_of_mut rfl (mut_of_sfun mixedz call9 rfl (run9 W) ⟨told47 W 1,told46 W 1,told47 W 2,told46 W 2,trivial⟩)
end Go.Ac

namespace Go.Ac
open Go Go.Proofs
set_option maxRecDepth 10000
set_option maxHeartbeats 1000000
theorem Fr1_z1 {cs} (h:Holds cs:=by simp only [Holds,and_true]<;>and_intros<;>first|exact zd):Holds cs:=h
def S60 (h:JH) (l:List JV) (m n i:Int):AS:=⟨[(1,iA m),(2,.gp 100000 0),(5,iA n),(6,iA i)],[(100000,.box (encV (.mk h l)) .own)]⟩
theorem b60_0 (W:World) (h:JH) (l:List JV) (m n i:Int) (h1:JH) (l1:List JV) (x:Int):sbody Tryz.prog W {tl:=[26],lp:=true} 26 0 [] [1,2,5,6] (S60 h l m n i) [bt,bt,bt,bt,bt,.lg,oS (eV h1 l1),ee,cR (iA x) [],ee]=.ok ((.normal,{t:=[(1,iA m),(2,.gp 100000 0),(5,.val (Value.int IntKind.i64 (IntKind.i64.wrap (n+x)))),(6,.val (Value.int IntKind.i64 (IntKind.i64.wrap (i+1))))],h:=[(100000,gB (eV h l))]}),[ee],MZ W 26 [.agg [.val (Value.int IntKind.i64 h1.kind),.val (Value.int IntKind.i64 h1.int),.str h1.3,sL 1 (List.map AV.str h1.names),sL 5 (encVs l1)],.val (Value.int IntKind.i64 (IntKind.i64.wrap (m - n)))] [] (.ret (iA x) [])::((encVs l)[i.toNat]?=some (eV h1 l1))::(0<=i)::(decide (n<=m)=true)::(d4 (decide (i<(↑(encVs l).length:Int))=true) [])):=kr
theorem b60_1 (W:World) (h:JH) (l:List JV) (m n i:Int):sbody Tryz.prog W {tl:=[26],lp:=true} 26 0 [] [1,2,5,6] (S60 h l m n i) [bt,bt,bt,bt,bf,ee]=.ok ((.exit 0,{t:=[(1,iA m),(2,.gp 100000 0),(5,iA n),(6,iA i)],h:=[(100000,gB (eV h l))]}),[ee],(decide (n<=m)=false)::(d4 (decide (i<(↑(encVs l).length:Int))=true) [])):=kr
theorem b60_2 (W:World) (h:JH) (l:List JV) (m n i:Int):sbody Tryz.prog W {tl:=[26],lp:=true} 26 0 [] [1,2,5,6] (S60 h l m n i) [bf,bf,bf,bf,ee]=.ok ((.exit 0,{t:=[(1,iA m),(2,.gp 100000 0),(5,iA n),(6,iA i)],h:=[(100000,gB (eV h l))]}),[aE 9999999],d4 (decide (i<(↑(encVs l).length:Int))=false) []):=kr
theorem e60_1 (W:World) (h:JH) (l:List JV) (m n i:Int):sbody Tryz.prog W {tl:=[26],lp:=true} 26 0 [] [5] (S60 h l m n i) [bt,bt,bt,bt,bf,ee]=.ok ((.exit 0,{t:=[(5,iA n)],h:=[]}),[ee],(decide (n<=m)=false)::(d4 (decide (i<(↑(encVs l).length:Int))=true) [])):=kr
theorem e60_2 (W:World) (h:JH) (l:List JV) (m n i:Int):sbody Tryz.prog W {tl:=[26],lp:=true} 26 0 [] [5] (S60 h l m n i) [bf,bf,bf,bf,ee]=.ok ((.exit 0,{t:=[(5,iA n)],h:=[]}),[aE 9999999],d4 (decide (i<(↑(encVs l).length:Int))=false) []):=kr
theorem p60_0 (W:World) (h:JH) (l:List JV) (m r:Int):sfun Tryz.prog W {tl:=[26],lp:=true} 1000 5 26 [eV h l,iA m] [] 100000 [ee,Ans.loop [1,2,5,6] (.exit 0) {t:=[(5,iA r)],h:=[]},ee] []=.ok (.ret (.val (Value.int IntKind.i64 r)) [],[ee],[LZ W [] 26 0 {t:=[(1,iA m),(2,.gp 100000 0),(5,.val (Value.int IntKind.i64 (IntKind.i64.wrap (1+(↑(List.map AV.str h.names).length:Int))))),(6,.val (Value.int IntKind.i64 0))],h:=[(100000,gB (.agg [.val (Value.int IntKind.i64 h.kind),.val (Value.int IntKind.i64 h.int),.str h.3,sL 1 (List.map AV.str h.names),sL 5 (encVs l)]))]} (.exit 0) {t:=[(5,iA r)],h:=[]}]):=kr
theorem call60:callable Tryz.prog 26=true:=kr
theorem loop60 (W:World) (h:JH) (l:List JV) (m r:Int) (hm:0<=m) (hm2:m<=2 ^ 32) (hv:okVs l) (hl:l.length<=2 ^ 50)
 (ih:∀ (i:Nat) (x:JV) (k:Int),l[i]?=some x->0<=k->k<=2 ^ 32->Pure Tryz.prog W 26 [encV x,iA k] (iA (partsV x k))) :
 ∀ q:Nat×Int,(q.1<=l.length/\r=partsL (l.drop q.1) m q.2/\1<=q.2/\q.2<=m+1+2 ^ 50)->LoopC Tryz.prog W [] (nslots Tryz.prog 26) (loopOf Tryz.prog 26 0) (S60 h l m q.2 q.1) (.exit 0) ⟨[(5,iA r)],[]⟩:=by
 refine loopC_inv (fun q:Nat×Int=>S60 h l m q.2 q.1) (fun q=>q.1<=l.length/\r=partsL (l.drop q.1) m q.2/\1<=q.2/\q.2<=m+1+2 ^ 50) (fun q=>l.length - q.1) (by simp) ?_
 rintro ⟨i,n⟩ ⟨h1,h2,h3,h4⟩
 simp only at h1 h2 h3 h4 ⊢
 by_cases hi:i<l.length
 ·obtain ⟨x,hx⟩:=getOf hi
  have hp:=partsL_bd
  by_cases hn:n<=m
  ·left
   have hb:=partsV_bd x (m - n) (okVs_get hv hx) (by omega)
   have hih:=ih i x (m - n) hx (by omega) (by omega)
   refine ⟨(i+1,n+partsV x (m - n)),⟨by simp only;omega,?_,by simp only;omega,by simp only;omega⟩,by simp only;omega,?_⟩
   ·rw [h2,drop_get hx,partsL,if_pos hn]
   ·cases x with
    | mk h1 l1 =>
     refine body_of_sbody mixedz (b60_0 W h l m n i h1 l1 (partsV (.mk h1 l1) (m - n))) (by simp only [Holds,and_true];all_goals (and_intros<;>first|exact .inl trivial|(rw [Int.toNat_natCast];exact encVs_get hx;done)|(rw [wrap_in (by omega)];exact mut_of_pure (by rfl) hih;done) |exact trivial|assumption|(simp only [decide_eq_true_eq,decide_eq_false_iff_not,Bool.not_eq_true',Bool.not_eq_false',encVs_len,List.length_map];omega)|omega)) ?_
     rw [wrap_in (by omega),wrap_in (by omega)];rfl
  ·right
   refine body_of_sbody mixedz (e60_1 W h l m n i) Fr1_z1 ?_
   rw [h2,drop_get hx,partsL,if_neg hn]
 ·right
  refine body_of_sbody mixedz (e60_2 W h l m n i) Fr1_z1 ?_
  rw [h2,List.drop_of_length_le (by omega)];rfl
theorem parts60 (W:World):∀ (k:Nat) (v:JV) (m:Int),sizeV v<k->okV v->0<=m->m<=2 ^ 32->Pure Tryz.prog W 26 [encV v,iA m] (iA (partsV v m))
 | 0,_,_,h,_,_,_=>by omega
 | k+1,.mk h l,m,hk,hv,h1,h2=>by
  have hn:=okV_nm hv
  have hl:=okV_ln hv
  simp only [JV.names,JV.hd,JV.items] at hn hl
  have hlp:=loop60 W h l m (partsV (.mk h l) m) h1 h2 hv.2.2 hl (fun i x k' hx h3 h4=>parts60 W k x k' (by have:=sizeV_item (v:=.mk h l) hx;omega) (okVs_get hv.2.2 hx) h3 h4) (0,1+h.names.length) ⟨by simp,by simp only [List.drop_zero];rfl,by simp only;omega,by simp only;omega⟩
  refine pure_of_mut rfl (mut_of_sfun mixedz call60 rfl (p60_0 W h l m (partsV (.mk h l) m)) ⟨?_,trivial⟩)
  rw [wrap_in (by simp only [List.length_map];omega),List.length_map]
  exact hlp
theorem parts (W:World) (v:JV) (m:Int) (hv:okV v) (h1:0<=m) (h2:m<=2 ^ 32):Pure Tryz.prog W 26 [encV v,iA m] (iA (partsV v m)):=parts60 W _ v m (Nat.lt_succ_self _) hv h1 h2
end Go.Ac

