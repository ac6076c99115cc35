/- What is proved: contracts of functions of this translation, walked; their plain meaning. No condition beyond those that each theorem names. -/
import Derived.Test.YteacgfebjekllaaGreatDoorMa6
import Derived.Test.YteacgfebjekllaaGreatDoorMb1
set_option linter.all false
set_option maxRecDepth 100000
set_option maxHeartbeats 4000000
namespace Go.Ac
open Go Go.Proofs
def nA (ns:List Int):AV:=.sl 1 (ns.map iA) []
def sA (ms:List (List UInt8)):AV:=.sl 1 (ms.map AV.str) []
def S3 (ns:List Int) (ms:List (List UInt8)) (e:Int):AS:=⟨[(1,nA ns),(2,sA ms),(3,iA e)],[]⟩
def T3 (ns:List Int) (ms:List (List UInt8)) (i:Nat):AS:=⟨[(1,nA ns),(2,sA ms),(4,iA i)],[]⟩
def U3 (ns:List Int) (ms:List (List UInt8)) (i k:Nat):AS:=⟨[(1,nA ns),(2,sA ms),(4,iA i),(5,iA k)],[]⟩
def S6 (ns:List Int) (ms:List (List UInt8)) (e:Int) (i:Nat):AS:=⟨[(0,iA e),(3,nA ns),(4,sA ms),(5,iA i)],[]⟩
def R6 (x:List UInt8):AS:=⟨[(2,.str x)],[]⟩
def E6:AS:=⟨[],[]⟩
def nums:List Int:=[0,1,2,3,4,5,7,8,10,11,12,13,14,15,16,17,18,20,21,22,23,30,40,41,42,43,44,50,51,52,53,54,55,56,57,58,59,60,61,62,70,71,72,73,74,75,76,80,90,110,130,131,160,161,162,163,164,165,166,167,168,170,171,180,190,210,211,212,220,221,222,240,250,251,270,271,272,280,281,282,283,284,285,300]
def nms0:List (List UInt8):=[[111,107],
 [108,111,110,103],
 [97,114,103],
 [115,104,111,114,116],
 [116,97,105,108],
 [102,117,108,108],
 [110,111,110,101],
 [116,104,101,114,101],
 [116,111,107,101,110],
 [116,101,120,116],
 [101,115,99,97,112,101],
 [117,116,102],
 [105,110,116],
 [114,97,110,103,101],
 [110,97,109,101],
 [100,101,112,116,104],
 [118,97,108,117,101],
 [112,97,116,104],
 [99,114,111,115,115],
 [105,110,100,101,120],
 [99,108,97,115,104],
 [107,101,121],
 [102,105,108,116,101,114],
 [111,112,101,114,97,116,111,114],
 [111,112,101,114,97,110,100],
 [109,97,110,121],
 [110,101,115,116,101,100],
 [117,112,100,97,116,101],
 [118,101,114,98],
 [103,105,118,101],
 [115,116,101,112,115],
 [102,105,108,116,101,114,115],
 [119,104,101,114,101],
 [107,105,110,100],
 [111,118,101,114,102,108,111,119],
 [98,105,103],
 [100,111,99],
 [115,111,114,116],
 [102,105,101,108,100,115],
 [98,111,116,104],
 [112,105,112,101],
 [115,116,97,103,101],
 [115,112,101,99],
 [101,120,112,114],
 [101,118,97,108],
 [100,105,118,105,100,101],
 [109,117,99,104],
 [109,97,100,101],
 [99,108,105,101,110,116,115],
 [116,114,97,99,101],
 [108,111,115,116],
 [114,105,115,101],
 [114,101,113,117,101,115,116],
 [111,112],
 [109,101,109,98,101,114],
 [109,105,115,115,105,110,103],
 [99,111,108,108,101,99,116,105,111,110],
 [105,100],
 [98,97,100],
 [115,116,97,108,101],
 [115,116,97,109,112,115],
 [105,110,100,101,120,101,100],
 [117,110,105,113,117,101],
 [104,111,114,105,122,111,110],
 [98,97,116,99,104],
 [114,117,108,101],
 [114,117,108,101,115],
 [115,99,104,101,109,97],
 [110,111,116,101,109,112,116,121],
 [99,97,112,97,99,105,116,121],
 [99,111,108,108],
 [110,111,100,101,115],
 [104,105,115,116,111,114,121],
 [115,101,97,114,99,104],
 [100,117,109,112],
 [111,114,100,101,114],
 [115,117,109,115],
 [109,97,103,105,99],
 [107,105,110,100,111,102],
 [102,108,97,103,115],
 [115,117,109],
 [115,101,115,115,105,111,110],
 [99,108,111,115,101,100],
 [99,111,110,115,111,108,101]]
def unk:List UInt8:=[117,110,107,110,111,119,110]
def lkT:List Int->List (List UInt8)->Int->Option (List UInt8)
 | n::ns,m::ms,e=>if n=e then some m else lkT ns ms e
 | _,_,_=>none
theorem f8_0 (W:World) (ns:List Int) (ms:List (List UInt8)) (e n m:Int) (x y:List UInt8) (i k N:Nat) (b:Bool):sfun Tryz.prog W {} 1000 9 8 [iA e] [] 100000 [Ans.br false,Ans.br false,Ans.br false,Ans.br false,Ans.br false,Ans.br false,Ans.br false,Ans.br false,Ans.br false,Ans.br false,Ans.br false,Ans.br false,Ans.br false,Ans.br false,Ans.br false,Ans.br false,Ans.br false,Ans.br false,Ans.br false,Ans.br false,Ans.br false,Ans.br false,Ans.br false,Ans.br false,Ans.br false,Ans.br false,Ans.br false,Ans.br false,Ans.br false,Ans.br false,Ans.ev 10000000] []=.ok (OutC.ret (AV.str []) [],[Ans.ev 10000000],[decide (e=53)=false,decide (e=52)=false,decide (e=51)=false,decide (e=50)=false,decide (e=44)=false,decide (e=43)=false,decide (e=42)=false,decide (e=41)=false,decide (e=40)=false,decide (e=30)=false,decide (e=23)=false,decide (e=22)=false,decide (e=21)=false,decide (e=20)=false,decide (e=18)=false,decide (e=17)=false,decide (e=16)=false,decide (e=15)=false,decide (e=14)=false,decide (e=13)=false,decide (e=12)=false,decide (e=11)=false,decide (e=10)=false,decide (e=8)=false,decide (e=7)=false,decide (e=5)=false,decide (e=4)=false,decide (e=3)=false,decide (e=2)=false,decide (e=1)=false]):=kr
theorem f9_0 (W:World) (ns:List Int) (ms:List (List UInt8)) (e n m:Int) (x y:List UInt8) (i k N:Nat) (b:Bool):sfun Tryz.prog W {} 1000 9 9 [iA e] [] 100000 [Ans.br false,Ans.br false,Ans.br false,Ans.br false,Ans.br false,Ans.br false,Ans.br false,Ans.br false,Ans.br false,Ans.br false,Ans.br false,Ans.br false,Ans.br false,Ans.br false,Ans.br false,Ans.br false,Ans.br false,Ans.br false,Ans.br false,Ans.br false,Ans.br false,Ans.br false,Ans.br false,Ans.br false,Ans.br false,Ans.br false,Ans.br false,Ans.br false,Ans.br false,Ans.br false,Ans.ev 10000000] []=.ok (OutC.ret (AV.str []) [],[Ans.ev 10000000],[decide (e=168)=false,decide (e=167)=false,decide (e=166)=false,decide (e=165)=false,decide (e=164)=false,decide (e=163)=false,decide (e=162)=false,decide (e=161)=false,decide (e=160)=false,decide (e=131)=false,decide (e=130)=false,decide (e=110)=false,decide (e=90)=false,decide (e=80)=false,decide (e=76)=false,decide (e=75)=false,decide (e=74)=false,decide (e=73)=false,decide (e=72)=false,decide (e=71)=false,decide (e=70)=false,decide (e=62)=false,decide (e=61)=false,decide (e=60)=false,decide (e=59)=false,decide (e=58)=false,decide (e=57)=false,decide (e=56)=false,decide (e=55)=false,decide (e=54)=false]):=kr
theorem f10_0 (W:World) (ns:List Int) (ms:List (List UInt8)) (e n m:Int) (x y:List UInt8) (i k N:Nat) (b:Bool):sfun Tryz.prog W {} 1000 9 10 [iA e] [] 100000 [Ans.br false,Ans.br false,Ans.br false,Ans.br false,Ans.br false,Ans.br false,Ans.br false,Ans.br false,Ans.br false,Ans.br false,Ans.br false,Ans.br false,Ans.br false,Ans.br false,Ans.br false,Ans.br false,Ans.br false,Ans.br false,Ans.br false,Ans.br false,Ans.br false,Ans.br false,Ans.br false,Ans.ev 10000000] []=.ok (OutC.ret (AV.str []) [],[Ans.ev 10000000],[decide (e=300)=false,decide (e=285)=false,decide (e=284)=false,decide (e=283)=false,decide (e=282)=false,decide (e=281)=false,decide (e=280)=false,decide (e=272)=false,decide (e=271)=false,decide (e=270)=false,decide (e=251)=false,decide (e=250)=false,decide (e=240)=false,decide (e=222)=false,decide (e=221)=false,decide (e=220)=false,decide (e=212)=false,decide (e=211)=false,decide (e=210)=false,decide (e=190)=false,decide (e=180)=false,decide (e=171)=false,decide (e=170)=false]):=kr
theorem f5_0 (W:World) (ns:List Int) (ms:List (List UInt8)) (e n m:Int) (x y:List UInt8) (i k N:Nat) (b:Bool):sfun Tryz.prog W {tl:=[8,9,10]} 1000 9 5 [iA e] [] 100000 [Ans.br false,Ans.ev 10000000,Ans.call (OutC.ret (AV.str []) []),Ans.ev 10000000,Ans.call (OutC.ret (AV.str []) []),Ans.ev 10000000,Ans.call (OutC.ret (AV.str []) []),Ans.ev 10000000] []=.ok (OutC.ret (AV.str [117,110,107,110,111,119,110]) [],[Ans.ev 9999997],[MutC Tryz.prog W 10 [iA e] [] (OutC.ret (AV.str []) []),MutC Tryz.prog W 9 [iA e] [] (OutC.ret (AV.str []) []),MutC Tryz.prog W 8 [iA e] [] (OutC.ret (AV.str []) []),decide (e=0)=false]):=kr
theorem p6_0 (W:World) (ns:List Int) (ms:List (List UInt8)) (e n m:Int) (x y:List UInt8) (i k N:Nat) (b:Bool):sfun Tryz.prog W {lp:=true,tl:=[4]} 1000 9 6 [iA e] [] 100000 [Ans.ev 10000000,Ans.call (OutC.ret (AV.tup [nA ns,sA ms]) []),Ans.ev 10000000,Ans.loopM [] [] (S6 ns ms e 0) XEnd.ret (R6 x),Ans.ev 10000000] []=.ok (OutC.ret (AV.str x) [],[Ans.ev 10000000],[LoopC Tryz.prog W [] (nslots Tryz.prog 6) (loopOf Tryz.prog 6 0) {t:=[(0,iA e),(3,AV.sl 1 (List.map iA ns) []),(4,AV.sl 1 (List.map AV.str ms) []),(5,iA 0)],h:=[]} XEnd.ret {t:=[(2,AV.str x)],h:=[]},MatchK [] [] [] {t:=[(0,iA e),(3,AV.sl 1 (List.map iA ns) []),(4,AV.sl 1 (List.map AV.str ms) []),(5,iA 0)],h:=[]} {t:=[(0,iA e),(3,AV.sl 1 (List.map iA ns) []),(4,AV.sl 1 (List.map AV.str ms) []),(5,iA 0)],h:=[]},MutC Tryz.prog W 4 [] [] (OutC.ret (AV.tup [AV.sl 1 (List.map iA ns) [],AV.sl 1 (List.map AV.str ms) []]) [])]):=kr
theorem q6_0 (W:World) (ns:List Int) (ms:List (List UInt8)) (e n m:Int) (x y:List UInt8) (i k N:Nat) (b:Bool):sfun Tryz.prog W {lp:=true,tl:=[4]} 1000 9 6 [iA e] [] 100000 [Ans.ev 10000000,Ans.call (OutC.ret (AV.tup [nA ns,sA ms]) []),Ans.ev 10000000,Ans.loopM [] [] (S6 ns ms e 0) (XEnd.exit 0) E6,Ans.ev 10000000] []=.ok (OutC.ret (AV.str [117,110,107,110,111,119,110]) [],[Ans.ev 10000000],[LoopC Tryz.prog W [] (nslots Tryz.prog 6) (loopOf Tryz.prog 6 0) {t:=[(0,iA e),(3,AV.sl 1 (List.map iA ns) []),(4,AV.sl 1 (List.map AV.str ms) []),(5,iA 0)],h:=[]} (XEnd.exit 0) {t:=[],h:=[]},MatchK [] [] [] {t:=[(0,iA e),(3,AV.sl 1 (List.map iA ns) []),(4,AV.sl 1 (List.map AV.str ms) []),(5,iA 0)],h:=[]} {t:=[(0,iA e),(3,AV.sl 1 (List.map iA ns) []),(4,AV.sl 1 (List.map AV.str ms) []),(5,iA 0)],h:=[]},MutC Tryz.prog W 4 [] [] (OutC.ret (AV.tup [AV.sl 1 (List.map iA ns) [],AV.sl 1 (List.map AV.str ms) []]) [])]):=kr
theorem b6_0 (W:World) (ns:List Int) (ms:List (List UInt8)) (e n m:Int) (x y:List UInt8) (i k N:Nat) (b:Bool):sbodyK Tryz.prog W {lp:=true,tl:=[]} 6 0 [] [0,2,3,4,5] (S6 ns ms e i) [Ans.br true,Ans.ev 1,Ans.opt (some (iA n)),Ans.br true,Ans.ev 1,Ans.opt (some (AV.str x)),Ans.ev 10000000]=.ok ((XEnd.ret,{t:=[(0,iA e),(2,AV.str x),(3,AV.sl 1 (List.map iA ns) []),(4,AV.sl 1 (List.map AV.str ms) []),(5,iA (i:Int))],h:=[]}),[Ans.ev 10000000],[(List.map AV.str ms)[(i:Int).toNat]?=some (AV.str x),decide (n=e)=true,(List.map iA ns)[(i:Int).toNat]?=some (iA n),decide ((i:Int)<(↑(List.map iA ns).length:Int))=true]):=kr
theorem b6_1 (W:World) (ns:List Int) (ms:List (List UInt8)) (e n m:Int) (x y:List UInt8) (i k N:Nat) (b:Bool):sbodyK Tryz.prog W {lp:=true,tl:=[]} 6 0 [] [0,2,3,4,5] (S6 ns ms e i) [Ans.br true,Ans.ev 1,Ans.opt (some (iA n)),Ans.br false,Ans.ev 10000000]=.ok ((XEnd.normal,{t:=[(0,iA e),(3,AV.sl 1 (List.map iA ns) []),(4,AV.sl 1 (List.map AV.str ms) []),(5,iA (IntKind.i64.wrap ((i:Int)+1)))],h:=[]}),[Ans.ev 10000000],[decide (n=e)=false,(List.map iA ns)[(i:Int).toNat]?=some (iA n),decide ((i:Int)<(↑(List.map iA ns).length:Int))=true]):=kr
theorem b6_2 (W:World) (ns:List Int) (ms:List (List UInt8)) (e n m:Int) (x y:List UInt8) (i k N:Nat) (b:Bool):sbodyK Tryz.prog W {lp:=true,tl:=[]} 6 0 [] [0,2,3,4,5] (S6 ns ms e i) [Ans.br false,Ans.ev 10000000]=.ok ((XEnd.exit 0,{t:=[(0,iA e),(3,AV.sl 1 (List.map iA ns) []),(4,AV.sl 1 (List.map AV.str ms) []),(5,iA (i:Int))],h:=[]}),[Ans.ev 10000000],[decide ((i:Int)<(↑(List.map iA ns).length:Int))=false]):=kr
theorem b3_1 (W:World) (ns:List Int) (ms:List (List UInt8)) (e n m:Int) (x y:List UInt8) (i k N:Nat) (b:Bool):sbodyK Tryz.prog W {lp:=true,tl:=[5,6]} 3 0 [] [1,2,3] (S3 ns ms e) [Ans.br true,Ans.ev 10000000,Ans.call (OutC.ret (AV.str x) []),Ans.ev 10000000,Ans.call (OutC.ret (AV.str x) []),Ans.br false,Ans.ev 10000000]=.ok ((XEnd.normal,{t:=[(1,AV.sl 1 (List.map iA ns) []),(2,AV.sl 1 (List.map AV.str ms) []),(3,iA (IntKind.i64.wrap (e+1)))],h:=[]}),[Ans.ev 10000000],[(!decide (x=x))=false,MutC Tryz.prog W 6 [iA e] [] (OutC.ret (AV.str x) []),MutC Tryz.prog W 5 [iA e] [] (OutC.ret (AV.str x) []),decide (e<=1000)=true]):=kr
theorem b3_2 (W:World) (ns:List Int) (ms:List (List UInt8)) (e n m:Int) (x y:List UInt8) (i k N:Nat) (b:Bool):sbodyK Tryz.prog W {lp:=true,tl:=[5,6]} 3 0 [] [1,2,3] (S3 ns ms e) [Ans.br false,Ans.ev 10000000]=.ok ((XEnd.exit 0,{t:=[(1,AV.sl 1 (List.map iA ns) []),(2,AV.sl 1 (List.map AV.str ms) []),(3,iA e)],h:=[]}),[Ans.ev 10000000],[decide (e<=1000)=false]):=kr
theorem b3i_0 (W:World) (ns:List Int) (ms:List (List UInt8)) (e n m:Int) (x y:List UInt8) (i k N:Nat) (b:Bool):sbodyK Tryz.prog W {lp:=true,tl:=[]} 3 1 [] [1,2,4] (T3 ns ms i) [Ans.br true,Ans.ev 10000000,Ans.loopM [] [] (U3 ns ms i 0) (XEnd.exit 4) (U3 ns ms i i),Ans.ev 10000000]=.ok ((XEnd.normal,{t:=[(1,AV.sl 1 (List.map iA ns) []),(2,AV.sl 1 (List.map AV.str ms) []),(4,iA (IntKind.i64.wrap ((i:Int)+1)))],h:=[]}),[Ans.ev 10000000],[LoopC Tryz.prog W [] (nslots Tryz.prog 3) (loopOf Tryz.prog 3 2) {t:=[(1,AV.sl 1 (List.map iA ns) []),(2,AV.sl 1 (List.map AV.str ms) []),(4,iA (i:Int)),(5,iA 0)],h:=[]} (XEnd.exit 4) {t:=[(1,AV.sl 1 (List.map iA ns) []),(2,AV.sl 1 (List.map AV.str ms) []),(4,iA (i:Int)),(5,iA (i:Int))],h:=[]},MatchK [] [] [] {t:=[(1,AV.sl 1 (List.map iA ns) []),(2,AV.sl 1 (List.map AV.str ms) []),(4,iA (i:Int)),(5,iA 0)],h:=[]} {t:=[(1,AV.sl 1 (List.map iA ns) []),(2,AV.sl 1 (List.map AV.str ms) []),(4,iA (i:Int)),(5,iA 0)],h:=[]},decide ((i:Int)<(↑(List.map iA ns).length:Int))=true]):=kr
theorem b3i_1 (W:World) (ns:List Int) (ms:List (List UInt8)) (e n m:Int) (x y:List UInt8) (i k N:Nat) (b:Bool):sbodyK Tryz.prog W {lp:=true,tl:=[]} 3 1 [] [1,2,4] (T3 ns ms i) [Ans.br false,Ans.ev 10000000]=.ok ((XEnd.exit 2,{t:=[(1,AV.sl 1 (List.map iA ns) []),(2,AV.sl 1 (List.map AV.str ms) []),(4,iA (i:Int))],h:=[]}),[Ans.ev 10000000],[decide ((i:Int)<(↑(List.map iA ns).length:Int))=false]):=kr
theorem b3k_2 (W:World) (ns:List Int) (ms:List (List UInt8)) (e n m:Int) (x y:List UInt8) (i k N:Nat) (b:Bool):sbodyK Tryz.prog W {lp:=true,tl:=[]} 3 2 [] [1,2,4,5] (U3 ns ms i k) [Ans.br true,Ans.ev 1,Ans.opt (some (AV.str x)),Ans.ev 1,Ans.opt (some (AV.str y)),Ans.br false,Ans.br false,Ans.br false,Ans.ev 1,Ans.opt (some (iA n)),Ans.br false,Ans.br false,Ans.br false,Ans.br false,Ans.ev 1,Ans.opt (some (iA m)),Ans.br false,Ans.br false,Ans.br false,Ans.br false,Ans.ev 10000000]=.ok ((XEnd.normal,{t:=[(1,AV.sl 1 (List.map iA ns) []),(2,AV.sl 1 (List.map AV.str ms) []),(4,iA (i:Int)),(5,iA (IntKind.i64.wrap ((k:Int)+1)))],h:=[]}),[Ans.ev 10000000],[decide (n=m)=false,decide (x=y)=false,decide (x=y)=false,decide (x=y)=false,(List.map iA ns)[(k:Int).toNat]?=some (iA m),decide (x=y)=false,decide (x=y)=false,decide (x=y)=false,decide (x=y)=false,(List.map iA ns)[(i:Int).toNat]?=some (iA n),decide (x=y)=false,decide (x=y)=false,decide (x=y)=false,(List.map AV.str ms)[(k:Int).toNat]?=some (AV.str y),(List.map AV.str ms)[(i:Int).toNat]?=some (AV.str x),decide ((k:Int)<(i:Int))=true]):=kr
theorem b3k_3 (W:World) (ns:List Int) (ms:List (List UInt8)) (e n m:Int) (x y:List UInt8) (i k N:Nat) (b:Bool):sbodyK Tryz.prog W {lp:=true,tl:=[]} 3 2 [] [1,2,4,5] (U3 ns ms i k) [Ans.br false,Ans.ev 10000000]=.ok ((XEnd.exit 4,{t:=[(1,AV.sl 1 (List.map iA ns) []),(2,AV.sl 1 (List.map AV.str ms) []),(4,iA (i:Int)),(5,iA (k:Int))],h:=[]}),[Ans.ev 10000000],[decide ((k:Int)<(i:Int))=false]):=kr
theorem p3_0 (W:World) (ns:List Int) (ms:List (List UInt8)) (e n m:Int) (x y:List UInt8) (i k N:Nat) (b:Bool):sfun Tryz.prog W {lp:=true,tl:=[4,7]} 1000 9 3 [] [] 100000 [Ans.ev 10000000,Ans.call (OutC.ret (AV.tup [nA ns,sA ms]) []),Ans.ev 10000000,Ans.loopM [] [] (S3 ns ms (-5)) (XEnd.exit 0) (S3 ns ms 1001),Ans.ev 10000000,Ans.loopM [] [] (T3 ns ms 0) (XEnd.exit 2) (T3 ns ms N),Ans.ev 10000000,Ans.call (OutC.ret (bA true) []),Ans.ev 10000000] []=.ok (OutC.ret (bA true) [],[Ans.ev 10000000],[MutC Tryz.prog W 7 [] [] (OutC.ret (bA true) []),LoopC Tryz.prog W [] (nslots Tryz.prog 3) (loopOf Tryz.prog 3 1) {t:=[(1,AV.sl 1 (List.map iA ns) []),(2,AV.sl 1 (List.map AV.str ms) []),(4,iA 0)],h:=[]} (XEnd.exit 2) {t:=[(1,AV.sl 1 (List.map iA ns) []),(2,AV.sl 1 (List.map AV.str ms) []),(4,iA (N:Int))],h:=[]},MatchK [] [] [] {t:=[(1,AV.sl 1 (List.map iA ns) []),(2,AV.sl 1 (List.map AV.str ms) []),(4,iA 0)],h:=[]} {t:=[(1,AV.sl 1 (List.map iA ns) []),(2,AV.sl 1 (List.map AV.str ms) []),(4,iA 0)],h:=[]},LoopC Tryz.prog W [] (nslots Tryz.prog 3) (loopOf Tryz.prog 3 0) {t:=[(1,AV.sl 1 (List.map iA ns) []),(2,AV.sl 1 (List.map AV.str ms) []),(3,iA (-5))],h:=[]} (XEnd.exit 0) {t:=[(1,AV.sl 1 (List.map iA ns) []),(2,AV.sl 1 (List.map AV.str ms) []),(3,iA 1001)],h:=[]},MatchK [] [] [] {t:=[(1,AV.sl 1 (List.map iA ns) []),(2,AV.sl 1 (List.map AV.str ms) []),(3,iA (-5))],h:=[]} {t:=[(1,AV.sl 1 (List.map iA ns) []),(2,AV.sl 1 (List.map AV.str ms) []),(3,iA (-5))],h:=[]},MutC Tryz.prog W 4 [] [] (OutC.ret (AV.tup [AV.sl 1 (List.map iA ns) [],AV.sl 1 (List.map AV.str ms) []]) [])]):=kr
theorem zM {kp f ph σ σ'} (h:MatchK kp f ph σ σ':=by exact ⟨by rfl,(by simp only [nA,sA,S3,T3,U3,S6,R6,E6,tOK,List.map_cons,List.map_nil,and_true];all_goals (and_intros<;>first|exact trivial|(first|exact .top _|exact .eq rfl rfl|exact .nil rfl|exact .same rfl (encV_clo _)|exact .same rfl rfl|(refine .aggL ?_;repeat' (first|exact LePL.nil|refine LePL.cons ?_ ?_));all_goals (first|exact .top _|exact .eq rfl rfl|exact .nil rfl|exact .same rfl (encV_clo _)|exact .same rfl rfl)))),(by simp only [nA,sA,S3,T3,U3,S6,R6,E6,hOK,List.map_cons,List.map_nil,and_true];all_goals (and_intros<;>first|exact trivial|exact gOK_ph' rfl (by decide) (by simp [encVs])|(refine gOK_box rfl rfl rfl ?_;(first|exact .top _|exact .eq rfl rfl|exact .nil rfl|exact .same rfl (encV_clo _)|exact .same rfl rfl|(refine .aggL ?_;repeat' (first|exact LePL.nil|refine LePL.cons ?_ ?_));all_goals (first|exact .top _|exact .eq rfl rfl|exact .nil rfl|exact .same rfl (encV_clo _)|exact .same rfl rfl)))|exact gOK_eq rfl rfl rfl|exact gOK_arr rfl rfl (by first|rfl) (by first|rfl|exact encVs_clo _|exact cloL_str _|exact cloL_encV _|assumption|(simp only [clo_append,cloL,encVs_clo,cloL_str,cloL_encV,encV_clo,Bool.and_true,Bool.and_self, *];done)))),(by simp only [nA,sA,S3,T3,U3,S6,R6,E6,liveT,List.map_cons,List.map_nil,and_true];all_goals (and_intros<;>first|rfl|exact trivial|exact allN_clo (by first|rfl|exact encVs_clo _|exact cloL_str _|exact cloL_encV _|assumption|(simp only [clo_append,cloL,encVs_clo,cloL_str,cloL_encV,encV_clo,Bool.and_true,Bool.and_self, *];done)))),(by simp only [nA,sA,S3,T3,U3,S6,R6,E6,liveH,List.map_cons,List.map_nil,and_true];all_goals (and_intros<;>first|rfl|exact trivial|exact allN_cloL (by first|rfl|exact encVs_clo _|exact cloL_str _|exact cloL_encV _|assumption|(simp only [clo_append,cloL,encVs_clo,cloL_str,cloL_encV,encV_clo,Bool.and_true,Bool.and_self, *];done))))⟩):MatchK kp f ph σ σ':=h
theorem call3:callable Tryz.prog 3=true:=kr
theorem call4:callable Tryz.prog 4=true:=kr
theorem call5:callable Tryz.prog 5=true:=kr
theorem call6:callable Tryz.prog 6=true:=kr
theorem call8:callable Tryz.prog 8=true:=kr
theorem call9:callable Tryz.prog 9=true:=kr
theorem call10:callable Tryz.prog 10=true:=kr
theorem mut4 (W:World):MutC Tryz.prog W 4 [] [] (.ret (.tup [nA nums,sA nms0]) []) :=
 mut_frzD [(100000,.arr 3 1 (nums.map iA) .own),(100001,.arr 9 1 (nms0.map AV.str) .own)] (xfun_ok (W:=W) mixedz 1000 30 4 [] [] 100000 (.ret (.tup [.gs 100000 0 84,.gs 100001 0 84]) [(100000,.arr 3 1 (nums.map iA) .own),(100001,.arr 9 1 (nms0.map AV.str) .own)]) (by kernel_rfl) call4 rfl)
  (fun p hp=>by
   rcases List.mem_cons.1 hp with rfl|hp
   ·exact ⟨rfl,rfl⟩
   ·obtain rfl:=List.mem_singleton.1 hp;exact ⟨rfl,rfl⟩) (by kernel_rfl) (by kernel_rfl)
theorem nm0 (W:World):MutC Tryz.prog W 5 [iA 0] [] (.ret (.str ((lkT nums nms0 0).getD unk)) []):=xfun_ok mixedz 1000 30 5 _ [] 100000 _ (by kernel_rfl) call5 rfl
theorem nm1 (W:World):MutC Tryz.prog W 5 [iA 1] [] (.ret (.str ((lkT nums nms0 1).getD unk)) []):=xfun_ok mixedz 1000 30 5 _ [] 100000 _ (by kernel_rfl) call5 rfl
theorem nm2 (W:World):MutC Tryz.prog W 5 [iA 2] [] (.ret (.str ((lkT nums nms0 2).getD unk)) []):=xfun_ok mixedz 1000 30 5 _ [] 100000 _ (by kernel_rfl) call5 rfl
theorem nm3 (W:World):MutC Tryz.prog W 5 [iA 3] [] (.ret (.str ((lkT nums nms0 3).getD unk)) []):=xfun_ok mixedz 1000 30 5 _ [] 100000 _ (by kernel_rfl) call5 rfl
theorem nm4 (W:World):MutC Tryz.prog W 5 [iA 4] [] (.ret (.str ((lkT nums nms0 4).getD unk)) []):=xfun_ok mixedz 1000 30 5 _ [] 100000 _ (by kernel_rfl) call5 rfl
theorem nm5 (W:World):MutC Tryz.prog W 5 [iA 5] [] (.ret (.str ((lkT nums nms0 5).getD unk)) []):=xfun_ok mixedz 1000 30 5 _ [] 100000 _ (by kernel_rfl) call5 rfl
theorem nm6 (W:World):MutC Tryz.prog W 5 [iA 7] [] (.ret (.str ((lkT nums nms0 7).getD unk)) []):=xfun_ok mixedz 1000 30 5 _ [] 100000 _ (by kernel_rfl) call5 rfl
theorem nm7 (W:World):MutC Tryz.prog W 5 [iA 8] [] (.ret (.str ((lkT nums nms0 8).getD unk)) []):=xfun_ok mixedz 1000 30 5 _ [] 100000 _ (by kernel_rfl) call5 rfl
theorem nm8 (W:World):MutC Tryz.prog W 5 [iA 10] [] (.ret (.str ((lkT nums nms0 10).getD unk)) []):=xfun_ok mixedz 1000 30 5 _ [] 100000 _ (by kernel_rfl) call5 rfl
theorem nm9 (W:World):MutC Tryz.prog W 5 [iA 11] [] (.ret (.str ((lkT nums nms0 11).getD unk)) []):=xfun_ok mixedz 1000 30 5 _ [] 100000 _ (by kernel_rfl) call5 rfl
theorem nm10 (W:World):MutC Tryz.prog W 5 [iA 12] [] (.ret (.str ((lkT nums nms0 12).getD unk)) []):=xfun_ok mixedz 1000 30 5 _ [] 100000 _ (by kernel_rfl) call5 rfl
theorem nm11 (W:World):MutC Tryz.prog W 5 [iA 13] [] (.ret (.str ((lkT nums nms0 13).getD unk)) []):=xfun_ok mixedz 1000 30 5 _ [] 100000 _ (by kernel_rfl) call5 rfl
theorem nm12 (W:World):MutC Tryz.prog W 5 [iA 14] [] (.ret (.str ((lkT nums nms0 14).getD unk)) []):=xfun_ok mixedz 1000 30 5 _ [] 100000 _ (by kernel_rfl) call5 rfl
theorem nm13 (W:World):MutC Tryz.prog W 5 [iA 15] [] (.ret (.str ((lkT nums nms0 15).getD unk)) []):=xfun_ok mixedz 1000 30 5 _ [] 100000 _ (by kernel_rfl) call5 rfl
theorem nm14 (W:World):MutC Tryz.prog W 5 [iA 16] [] (.ret (.str ((lkT nums nms0 16).getD unk)) []):=xfun_ok mixedz 1000 30 5 _ [] 100000 _ (by kernel_rfl) call5 rfl
theorem nm15 (W:World):MutC Tryz.prog W 5 [iA 17] [] (.ret (.str ((lkT nums nms0 17).getD unk)) []):=xfun_ok mixedz 1000 30 5 _ [] 100000 _ (by kernel_rfl) call5 rfl
theorem nm16 (W:World):MutC Tryz.prog W 5 [iA 18] [] (.ret (.str ((lkT nums nms0 18).getD unk)) []):=xfun_ok mixedz 1000 30 5 _ [] 100000 _ (by kernel_rfl) call5 rfl
theorem nm17 (W:World):MutC Tryz.prog W 5 [iA 20] [] (.ret (.str ((lkT nums nms0 20).getD unk)) []):=xfun_ok mixedz 1000 30 5 _ [] 100000 _ (by kernel_rfl) call5 rfl
theorem nm18 (W:World):MutC Tryz.prog W 5 [iA 21] [] (.ret (.str ((lkT nums nms0 21).getD unk)) []):=xfun_ok mixedz 1000 30 5 _ [] 100000 _ (by kernel_rfl) call5 rfl
theorem nm19 (W:World):MutC Tryz.prog W 5 [iA 22] [] (.ret (.str ((lkT nums nms0 22).getD unk)) []):=xfun_ok mixedz 1000 30 5 _ [] 100000 _ (by kernel_rfl) call5 rfl
theorem nm20 (W:World):MutC Tryz.prog W 5 [iA 23] [] (.ret (.str ((lkT nums nms0 23).getD unk)) []):=xfun_ok mixedz 1000 30 5 _ [] 100000 _ (by kernel_rfl) call5 rfl
theorem nm21 (W:World):MutC Tryz.prog W 5 [iA 30] [] (.ret (.str ((lkT nums nms0 30).getD unk)) []):=xfun_ok mixedz 1000 30 5 _ [] 100000 _ (by kernel_rfl) call5 rfl
theorem nm22 (W:World):MutC Tryz.prog W 5 [iA 40] [] (.ret (.str ((lkT nums nms0 40).getD unk)) []):=xfun_ok mixedz 1000 30 5 _ [] 100000 _ (by kernel_rfl) call5 rfl
theorem nm23 (W:World):MutC Tryz.prog W 5 [iA 41] [] (.ret (.str ((lkT nums nms0 41).getD unk)) []):=xfun_ok mixedz 1000 30 5 _ [] 100000 _ (by kernel_rfl) call5 rfl
theorem nm24 (W:World):MutC Tryz.prog W 5 [iA 42] [] (.ret (.str ((lkT nums nms0 42).getD unk)) []):=xfun_ok mixedz 1000 30 5 _ [] 100000 _ (by kernel_rfl) call5 rfl
theorem nm25 (W:World):MutC Tryz.prog W 5 [iA 43] [] (.ret (.str ((lkT nums nms0 43).getD unk)) []):=xfun_ok mixedz 1000 30 5 _ [] 100000 _ (by kernel_rfl) call5 rfl
theorem nm26 (W:World):MutC Tryz.prog W 5 [iA 44] [] (.ret (.str ((lkT nums nms0 44).getD unk)) []):=xfun_ok mixedz 1000 30 5 _ [] 100000 _ (by kernel_rfl) call5 rfl
theorem nm27 (W:World):MutC Tryz.prog W 5 [iA 50] [] (.ret (.str ((lkT nums nms0 50).getD unk)) []):=xfun_ok mixedz 1000 30 5 _ [] 100000 _ (by kernel_rfl) call5 rfl
theorem nm28 (W:World):MutC Tryz.prog W 5 [iA 51] [] (.ret (.str ((lkT nums nms0 51).getD unk)) []):=xfun_ok mixedz 1000 30 5 _ [] 100000 _ (by kernel_rfl) call5 rfl
theorem nm29 (W:World):MutC Tryz.prog W 5 [iA 52] [] (.ret (.str ((lkT nums nms0 52).getD unk)) []):=xfun_ok mixedz 1000 30 5 _ [] 100000 _ (by kernel_rfl) call5 rfl
theorem nm30 (W:World):MutC Tryz.prog W 5 [iA 53] [] (.ret (.str ((lkT nums nms0 53).getD unk)) []):=xfun_ok mixedz 1000 30 5 _ [] 100000 _ (by kernel_rfl) call5 rfl
theorem nm31 (W:World):MutC Tryz.prog W 5 [iA 54] [] (.ret (.str ((lkT nums nms0 54).getD unk)) []):=xfun_ok mixedz 1000 30 5 _ [] 100000 _ (by kernel_rfl) call5 rfl
theorem nm32 (W:World):MutC Tryz.prog W 5 [iA 55] [] (.ret (.str ((lkT nums nms0 55).getD unk)) []):=xfun_ok mixedz 1000 30 5 _ [] 100000 _ (by kernel_rfl) call5 rfl
theorem nm33 (W:World):MutC Tryz.prog W 5 [iA 56] [] (.ret (.str ((lkT nums nms0 56).getD unk)) []):=xfun_ok mixedz 1000 30 5 _ [] 100000 _ (by kernel_rfl) call5 rfl
theorem nm34 (W:World):MutC Tryz.prog W 5 [iA 57] [] (.ret (.str ((lkT nums nms0 57).getD unk)) []):=xfun_ok mixedz 1000 30 5 _ [] 100000 _ (by kernel_rfl) call5 rfl
theorem nm35 (W:World):MutC Tryz.prog W 5 [iA 58] [] (.ret (.str ((lkT nums nms0 58).getD unk)) []):=xfun_ok mixedz 1000 30 5 _ [] 100000 _ (by kernel_rfl) call5 rfl
theorem nm36 (W:World):MutC Tryz.prog W 5 [iA 59] [] (.ret (.str ((lkT nums nms0 59).getD unk)) []):=xfun_ok mixedz 1000 30 5 _ [] 100000 _ (by kernel_rfl) call5 rfl
theorem nm37 (W:World):MutC Tryz.prog W 5 [iA 60] [] (.ret (.str ((lkT nums nms0 60).getD unk)) []):=xfun_ok mixedz 1000 30 5 _ [] 100000 _ (by kernel_rfl) call5 rfl
theorem nm38 (W:World):MutC Tryz.prog W 5 [iA 61] [] (.ret (.str ((lkT nums nms0 61).getD unk)) []):=xfun_ok mixedz 1000 30 5 _ [] 100000 _ (by kernel_rfl) call5 rfl
theorem nm39 (W:World):MutC Tryz.prog W 5 [iA 62] [] (.ret (.str ((lkT nums nms0 62).getD unk)) []):=xfun_ok mixedz 1000 30 5 _ [] 100000 _ (by kernel_rfl) call5 rfl
theorem nm40 (W:World):MutC Tryz.prog W 5 [iA 70] [] (.ret (.str ((lkT nums nms0 70).getD unk)) []):=xfun_ok mixedz 1000 30 5 _ [] 100000 _ (by kernel_rfl) call5 rfl
theorem nm41 (W:World):MutC Tryz.prog W 5 [iA 71] [] (.ret (.str ((lkT nums nms0 71).getD unk)) []):=xfun_ok mixedz 1000 30 5 _ [] 100000 _ (by kernel_rfl) call5 rfl
theorem nm42 (W:World):MutC Tryz.prog W 5 [iA 72] [] (.ret (.str ((lkT nums nms0 72).getD unk)) []):=xfun_ok mixedz 1000 30 5 _ [] 100000 _ (by kernel_rfl) call5 rfl
theorem nm43 (W:World):MutC Tryz.prog W 5 [iA 73] [] (.ret (.str ((lkT nums nms0 73).getD unk)) []):=xfun_ok mixedz 1000 30 5 _ [] 100000 _ (by kernel_rfl) call5 rfl
theorem nm44 (W:World):MutC Tryz.prog W 5 [iA 74] [] (.ret (.str ((lkT nums nms0 74).getD unk)) []):=xfun_ok mixedz 1000 30 5 _ [] 100000 _ (by kernel_rfl) call5 rfl
theorem nm45 (W:World):MutC Tryz.prog W 5 [iA 75] [] (.ret (.str ((lkT nums nms0 75).getD unk)) []):=xfun_ok mixedz 1000 30 5 _ [] 100000 _ (by kernel_rfl) call5 rfl
theorem nm46 (W:World):MutC Tryz.prog W 5 [iA 76] [] (.ret (.str ((lkT nums nms0 76).getD unk)) []):=xfun_ok mixedz 1000 30 5 _ [] 100000 _ (by kernel_rfl) call5 rfl
theorem nm47 (W:World):MutC Tryz.prog W 5 [iA 80] [] (.ret (.str ((lkT nums nms0 80).getD unk)) []):=xfun_ok mixedz 1000 30 5 _ [] 100000 _ (by kernel_rfl) call5 rfl
theorem nm48 (W:World):MutC Tryz.prog W 5 [iA 90] [] (.ret (.str ((lkT nums nms0 90).getD unk)) []):=xfun_ok mixedz 1000 30 5 _ [] 100000 _ (by kernel_rfl) call5 rfl
theorem nm49 (W:World):MutC Tryz.prog W 5 [iA 110] [] (.ret (.str ((lkT nums nms0 110).getD unk)) []):=xfun_ok mixedz 1000 30 5 _ [] 100000 _ (by kernel_rfl) call5 rfl
theorem nm50 (W:World):MutC Tryz.prog W 5 [iA 130] [] (.ret (.str ((lkT nums nms0 130).getD unk)) []):=xfun_ok mixedz 1000 30 5 _ [] 100000 _ (by kernel_rfl) call5 rfl
theorem nm51 (W:World):MutC Tryz.prog W 5 [iA 131] [] (.ret (.str ((lkT nums nms0 131).getD unk)) []):=xfun_ok mixedz 1000 30 5 _ [] 100000 _ (by kernel_rfl) call5 rfl
theorem nm52 (W:World):MutC Tryz.prog W 5 [iA 160] [] (.ret (.str ((lkT nums nms0 160).getD unk)) []):=xfun_ok mixedz 1000 30 5 _ [] 100000 _ (by kernel_rfl) call5 rfl
theorem nm53 (W:World):MutC Tryz.prog W 5 [iA 161] [] (.ret (.str ((lkT nums nms0 161).getD unk)) []):=xfun_ok mixedz 1000 30 5 _ [] 100000 _ (by kernel_rfl) call5 rfl
theorem nm54 (W:World):MutC Tryz.prog W 5 [iA 162] [] (.ret (.str ((lkT nums nms0 162).getD unk)) []):=xfun_ok mixedz 1000 30 5 _ [] 100000 _ (by kernel_rfl) call5 rfl
theorem nm55 (W:World):MutC Tryz.prog W 5 [iA 163] [] (.ret (.str ((lkT nums nms0 163).getD unk)) []):=xfun_ok mixedz 1000 30 5 _ [] 100000 _ (by kernel_rfl) call5 rfl
theorem nm56 (W:World):MutC Tryz.prog W 5 [iA 164] [] (.ret (.str ((lkT nums nms0 164).getD unk)) []):=xfun_ok mixedz 1000 30 5 _ [] 100000 _ (by kernel_rfl) call5 rfl
theorem nm57 (W:World):MutC Tryz.prog W 5 [iA 165] [] (.ret (.str ((lkT nums nms0 165).getD unk)) []):=xfun_ok mixedz 1000 30 5 _ [] 100000 _ (by kernel_rfl) call5 rfl
theorem nm58 (W:World):MutC Tryz.prog W 5 [iA 166] [] (.ret (.str ((lkT nums nms0 166).getD unk)) []):=xfun_ok mixedz 1000 30 5 _ [] 100000 _ (by kernel_rfl) call5 rfl
theorem nm59 (W:World):MutC Tryz.prog W 5 [iA 167] [] (.ret (.str ((lkT nums nms0 167).getD unk)) []):=xfun_ok mixedz 1000 30 5 _ [] 100000 _ (by kernel_rfl) call5 rfl
theorem nm60 (W:World):MutC Tryz.prog W 5 [iA 168] [] (.ret (.str ((lkT nums nms0 168).getD unk)) []):=xfun_ok mixedz 1000 30 5 _ [] 100000 _ (by kernel_rfl) call5 rfl
theorem nm61 (W:World):MutC Tryz.prog W 5 [iA 170] [] (.ret (.str ((lkT nums nms0 170).getD unk)) []):=xfun_ok mixedz 1000 30 5 _ [] 100000 _ (by kernel_rfl) call5 rfl
theorem nm62 (W:World):MutC Tryz.prog W 5 [iA 171] [] (.ret (.str ((lkT nums nms0 171).getD unk)) []):=xfun_ok mixedz 1000 30 5 _ [] 100000 _ (by kernel_rfl) call5 rfl
theorem nm63 (W:World):MutC Tryz.prog W 5 [iA 180] [] (.ret (.str ((lkT nums nms0 180).getD unk)) []):=xfun_ok mixedz 1000 30 5 _ [] 100000 _ (by kernel_rfl) call5 rfl
theorem nm64 (W:World):MutC Tryz.prog W 5 [iA 190] [] (.ret (.str ((lkT nums nms0 190).getD unk)) []):=xfun_ok mixedz 1000 30 5 _ [] 100000 _ (by kernel_rfl) call5 rfl
theorem nm65 (W:World):MutC Tryz.prog W 5 [iA 210] [] (.ret (.str ((lkT nums nms0 210).getD unk)) []):=xfun_ok mixedz 1000 30 5 _ [] 100000 _ (by kernel_rfl) call5 rfl
theorem nm66 (W:World):MutC Tryz.prog W 5 [iA 211] [] (.ret (.str ((lkT nums nms0 211).getD unk)) []):=xfun_ok mixedz 1000 30 5 _ [] 100000 _ (by kernel_rfl) call5 rfl
theorem nm67 (W:World):MutC Tryz.prog W 5 [iA 212] [] (.ret (.str ((lkT nums nms0 212).getD unk)) []):=xfun_ok mixedz 1000 30 5 _ [] 100000 _ (by kernel_rfl) call5 rfl
theorem nm68 (W:World):MutC Tryz.prog W 5 [iA 220] [] (.ret (.str ((lkT nums nms0 220).getD unk)) []):=xfun_ok mixedz 1000 30 5 _ [] 100000 _ (by kernel_rfl) call5 rfl
theorem nm69 (W:World):MutC Tryz.prog W 5 [iA 221] [] (.ret (.str ((lkT nums nms0 221).getD unk)) []):=xfun_ok mixedz 1000 30 5 _ [] 100000 _ (by kernel_rfl) call5 rfl
theorem nm70 (W:World):MutC Tryz.prog W 5 [iA 222] [] (.ret (.str ((lkT nums nms0 222).getD unk)) []):=xfun_ok mixedz 1000 30 5 _ [] 100000 _ (by kernel_rfl) call5 rfl
theorem nm71 (W:World):MutC Tryz.prog W 5 [iA 240] [] (.ret (.str ((lkT nums nms0 240).getD unk)) []):=xfun_ok mixedz 1000 30 5 _ [] 100000 _ (by kernel_rfl) call5 rfl
theorem nm72 (W:World):MutC Tryz.prog W 5 [iA 250] [] (.ret (.str ((lkT nums nms0 250).getD unk)) []):=xfun_ok mixedz 1000 30 5 _ [] 100000 _ (by kernel_rfl) call5 rfl
theorem nm73 (W:World):MutC Tryz.prog W 5 [iA 251] [] (.ret (.str ((lkT nums nms0 251).getD unk)) []):=xfun_ok mixedz 1000 30 5 _ [] 100000 _ (by kernel_rfl) call5 rfl
theorem nm74 (W:World):MutC Tryz.prog W 5 [iA 270] [] (.ret (.str ((lkT nums nms0 270).getD unk)) []):=xfun_ok mixedz 1000 30 5 _ [] 100000 _ (by kernel_rfl) call5 rfl
theorem nm75 (W:World):MutC Tryz.prog W 5 [iA 271] [] (.ret (.str ((lkT nums nms0 271).getD unk)) []):=xfun_ok mixedz 1000 30 5 _ [] 100000 _ (by kernel_rfl) call5 rfl
theorem nm76 (W:World):MutC Tryz.prog W 5 [iA 272] [] (.ret (.str ((lkT nums nms0 272).getD unk)) []):=xfun_ok mixedz 1000 30 5 _ [] 100000 _ (by kernel_rfl) call5 rfl
theorem nm77 (W:World):MutC Tryz.prog W 5 [iA 280] [] (.ret (.str ((lkT nums nms0 280).getD unk)) []):=xfun_ok mixedz 1000 30 5 _ [] 100000 _ (by kernel_rfl) call5 rfl
theorem nm78 (W:World):MutC Tryz.prog W 5 [iA 281] [] (.ret (.str ((lkT nums nms0 281).getD unk)) []):=xfun_ok mixedz 1000 30 5 _ [] 100000 _ (by kernel_rfl) call5 rfl
theorem nm79 (W:World):MutC Tryz.prog W 5 [iA 282] [] (.ret (.str ((lkT nums nms0 282).getD unk)) []):=xfun_ok mixedz 1000 30 5 _ [] 100000 _ (by kernel_rfl) call5 rfl
theorem nm80 (W:World):MutC Tryz.prog W 5 [iA 283] [] (.ret (.str ((lkT nums nms0 283).getD unk)) []):=xfun_ok mixedz 1000 30 5 _ [] 100000 _ (by kernel_rfl) call5 rfl
theorem nm81 (W:World):MutC Tryz.prog W 5 [iA 284] [] (.ret (.str ((lkT nums nms0 284).getD unk)) []):=xfun_ok mixedz 1000 30 5 _ [] 100000 _ (by kernel_rfl) call5 rfl
theorem nm82 (W:World):MutC Tryz.prog W 5 [iA 285] [] (.ret (.str ((lkT nums nms0 285).getD unk)) []):=xfun_ok mixedz 1000 30 5 _ [] 100000 _ (by kernel_rfl) call5 rfl
theorem nm83 (W:World):MutC Tryz.prog W 5 [iA 300] [] (.ret (.str ((lkT nums nms0 300).getD unk)) []):=xfun_ok mixedz 1000 30 5 _ [] 100000 _ (by kernel_rfl) call5 rfl
theorem lkT_none:∀ (ns:List Int) (ms:List (List UInt8)) (e:Int),e ∉ ns->lkT ns ms e=none
 | [],_,_,_=>rfl
 | n::ns,[],_,_=>rfl
 | n::ns,m::ms,e,h=>by
  simp only [List.mem_cons,not_or] at h
  rw [lkT,if_neg (fun q=>h.1 q.symm)]
  exact lkT_none ns ms e h.2
theorem name5 (W:World) (e:Int):MutC Tryz.prog W 5 [iA e] [] (.ret (.str ((lkT nums nms0 e).getD unk)) []):=by
 by_cases h:e ∈ nums
 ·simp only [nums,List.mem_cons,List.not_mem_nil,or_false] at h
  rcases h with rfl|rfl|rfl|rfl|rfl|rfl|rfl|rfl|rfl|rfl|rfl|rfl|rfl|rfl|rfl|rfl|rfl|rfl|rfl|rfl|rfl|rfl|rfl|rfl|rfl|rfl|rfl|rfl|rfl|rfl|rfl|rfl|rfl|rfl|rfl|rfl|rfl|rfl|rfl|rfl|rfl|rfl|rfl|rfl|rfl|rfl|rfl|rfl|rfl|rfl|rfl|rfl|rfl|rfl|rfl|rfl|rfl|rfl|rfl|rfl|rfl|rfl|rfl|rfl|rfl|rfl|rfl|rfl|rfl|rfl|rfl|rfl|rfl|rfl|rfl|rfl|rfl|rfl|rfl|rfl|rfl|rfl|rfl|rfl
  ·exact nm0 W
  ·exact nm1 W
  ·exact nm2 W
  ·exact nm3 W
  ·exact nm4 W
  ·exact nm5 W
  ·exact nm6 W
  ·exact nm7 W
  ·exact nm8 W
  ·exact nm9 W
  ·exact nm10 W
  ·exact nm11 W
  ·exact nm12 W
  ·exact nm13 W
  ·exact nm14 W
  ·exact nm15 W
  ·exact nm16 W
  ·exact nm17 W
  ·exact nm18 W
  ·exact nm19 W
  ·exact nm20 W
  ·exact nm21 W
  ·exact nm22 W
  ·exact nm23 W
  ·exact nm24 W
  ·exact nm25 W
  ·exact nm26 W
  ·exact nm27 W
  ·exact nm28 W
  ·exact nm29 W
  ·exact nm30 W
  ·exact nm31 W
  ·exact nm32 W
  ·exact nm33 W
  ·exact nm34 W
  ·exact nm35 W
  ·exact nm36 W
  ·exact nm37 W
  ·exact nm38 W
  ·exact nm39 W
  ·exact nm40 W
  ·exact nm41 W
  ·exact nm42 W
  ·exact nm43 W
  ·exact nm44 W
  ·exact nm45 W
  ·exact nm46 W
  ·exact nm47 W
  ·exact nm48 W
  ·exact nm49 W
  ·exact nm50 W
  ·exact nm51 W
  ·exact nm52 W
  ·exact nm53 W
  ·exact nm54 W
  ·exact nm55 W
  ·exact nm56 W
  ·exact nm57 W
  ·exact nm58 W
  ·exact nm59 W
  ·exact nm60 W
  ·exact nm61 W
  ·exact nm62 W
  ·exact nm63 W
  ·exact nm64 W
  ·exact nm65 W
  ·exact nm66 W
  ·exact nm67 W
  ·exact nm68 W
  ·exact nm69 W
  ·exact nm70 W
  ·exact nm71 W
  ·exact nm72 W
  ·exact nm73 W
  ·exact nm74 W
  ·exact nm75 W
  ·exact nm76 W
  ·exact nm77 W
  ·exact nm78 W
  ·exact nm79 W
  ·exact nm80 W
  ·exact nm81 W
  ·exact nm82 W
  ·exact nm83 W
 ·rw [lkT_none _ _ _ h]
  simp only [nums,List.mem_cons,List.not_mem_nil,or_false,not_or] at h
  obtain ⟨_,_,_,_,_,_,_,_,_,_,_,_,_,_,_,_,_,_,_,_,_,_,_,_,_,_,_,_,_,_,_,_,_,_,_,_,_,_,_,_,_,_,_,_,_,_,_,_,_,_,_,_,_,_,_,_,_,_,_,_,_,_,_,_,_,_,_,_,_,_,_,_,_,_,_,_,_,_,_,_,_,_,_,_⟩:=h
  have a8:MutC Tryz.prog W 8 [iA e] [] (.ret (.str []) []):=mut_of_sfun mixedz call8 rfl (f8_0 W [] [] e 0 0 [] [] 0 0 0 true) (by simp only [Holds,and_true];and_intros<;>(apply decide_eq_false;assumption))
  have a9:MutC Tryz.prog W 9 [iA e] [] (.ret (.str []) []):=mut_of_sfun mixedz call9 rfl (f9_0 W [] [] e 0 0 [] [] 0 0 0 true) (by simp only [Holds,and_true];and_intros<;>(apply decide_eq_false;assumption))
  have a10:MutC Tryz.prog W 10 [iA e] [] (.ret (.str []) []):=mut_of_sfun mixedz call10 rfl (f10_0 W [] [] e 0 0 [] [] 0 0 0 true) (by simp only [Holds,and_true];and_intros<;>(apply decide_eq_false;assumption))
  exact mut_of_sfun mixedz call5 rfl (f5_0 W [] [] e 0 0 [] [] 0 0 0 true) ⟨a10,a9,a8,decide_eq_false (by assumption),trivial⟩
end Go.Ac

set_option maxRecDepth 100000
set_option maxHeartbeats 4000000
namespace Go.Ac
open Go Go.Proofs
theorem lens:nums.length=nms0.length:=by decide
theorem i_get {l:List Int} {i:Nat} {x:Int} (h:l[i]?=some x):(l.map iA)[i]?=some (iA x):=by rw [List.getElem?_map,h];rfl
theorem name6 (W:World) (e:Int):MutC Tryz.prog W 6 [iA e] [] (.ret (.str ((lkT nums nms0 e).getD unk)) []):=by
 have loop:∀ (j i:Nat),nums.length - i=j->i<=nums.length →
  (∃ x,lkT (nums.drop i) (nms0.drop i) e=some x/\LoopC Tryz.prog W [] (nslots Tryz.prog 6) (loopOf Tryz.prog 6 0) (S6 nums nms0 e i) .ret (R6 x)) ∨
  (lkT (nums.drop i) (nms0.drop i) e=none/\LoopC Tryz.prog W [] (nslots Tryz.prog 6) (loopOf Tryz.prog 6 0) (S6 nums nms0 e i) (.exit 0) E6):=by
  intro j
  induction j with
  | zero =>
   intro i hj hi
   have hd:decide ((i:Int)<(((nums.map iA).length:Nat):Int))=false:=by rw [List.length_map];exact decide_eq_false (by omega)
   rw [List.drop_of_length_le (l:=nums) (by omega)]
   exact .inr ⟨rfl,loop_last (by simp) (body_of_sbodyK mixedz (b6_2 W nums nms0 e 0 0 [] [] i 0 0 true) ⟨hd,trivial⟩ [] [] zM)⟩
  | succ j ih =>
   intro i hj hi
   have hL:=lens
   obtain ⟨n,hn⟩:=getOf (l:=nums) (i:=i) (by omega)
   obtain ⟨x,hx⟩:=getOf (l:=nms0) (i:=i) (by omega)
   have hd:decide ((i:Int)<(((nums.map iA).length:Nat):Int))=true:=by rw [List.length_map];exact decide_eq_true (by omega)
   have g1:(nums.map iA)[((i:Int)).toNat]?=some (iA n):=by rw [Int.toNat_natCast];exact i_get hn
   have g2:(nms0.map AV.str)[((i:Int)).toNat]?=some (AV.str x):=by rw [Int.toNat_natCast];exact strs_get hx
   have hlen:nums.length<2 ^ 62:=by decide
   have hws:IntKind.i64.wrap ((i:Int)+1)=((i+1:Nat):Int):=wrap_succ (by omega)
   rw [drop_get hn,drop_get hx,lkT]
   by_cases hq:n=e
   ·rw [if_pos hq]
    exact .inl ⟨x,rfl,loop_last (by simp) (body_of_sbodyK mixedz (b6_0 W nums nms0 e n 0 x [] i 0 0 true) ⟨g2,decide_eq_true hq,g1,hd,trivial⟩ [] [] zM)⟩
   ·rw [if_neg hq]
    have hb:=body_of_sbodyK mixedz (b6_1 W nums nms0 e n 0 [] [] i 0 0 true) ⟨decide_eq_false hq,g1,hd,trivial⟩ [] [] (σ3:=S6 nums nms0 e (i+1)) (by rw [hws];exact zM)
    rcases ih (i+1) (by omega) (by omega) with ⟨y,h1,h2⟩|⟨h1,h2⟩
    ·exact .inl ⟨y,h1,loop_next hb h2⟩
    ·exact .inr ⟨h1,loop_next hb h2⟩
 rcases loop _ 0 rfl (by omega) with ⟨x,h1,h2⟩|⟨h1,h2⟩
 ·rw [show lkT nums nms0 e=some x from h1]
  exact mut_of_sfun mixedz call6 rfl (p6_0 W nums nms0 e 0 0 x [] 0 0 0 true) ⟨h2,zM,mut4 W,trivial⟩
 ·rw [show lkT nums nms0 e=none from h1]
  exact mut_of_sfun mixedz call6 rfl (q6_0 W nums nms0 e 0 0 [] [] 0 0 0 true) ⟨h2,zM,mut4 W,trivial⟩
theorem eLoop (W:World):∀ (j:Nat) (e:Int),(1001 - e).toNat=j->-5<=e->e<=1001->LoopC Tryz.prog W [] (nslots Tryz.prog 3) (loopOf Tryz.prog 3 0) (S3 nums nms0 e) (.exit 0) (S3 nums nms0 1001):=by
 intro j
 induction j with
 | zero =>
  intro e hj h1 h2
  obtain rfl:e=1001:=by omega
  exact loop_last (by simp) (body_of_sbodyK mixedz (b3_2 W nums nms0 1001 0 0 [] [] 0 0 0 true) ⟨rfl,trivial⟩ [] [] zM)
 | succ j ih =>
  intro e hj h1 h2
  have hws:IntKind.i64.wrap (e+1)=e+1:=wrap_in (by omega)
  exact loop_next (body_of_sbodyK mixedz (b3_1 W nums nms0 e 0 0 _ [] 0 0 0 true) ⟨by simp,name6 W e,name5 W e,decide_eq_true (by omega),trivial⟩ [] [] (σ3:=S3 nums nms0 (e+1)) (by rw [hws];exact zM)) (ih (e+1) (by omega) (by omega) (by omega))
theorem nodI:nums.Nodup:=by decide
theorem nodS:nms0.Nodup:=by decide
theorem get_ne {α:Type} {l:List α} (h:l.Nodup) {i k:Nat} {x y:α} (hi:l[i]?=some x) (hk:l[k]?=some y) (hne:k<i):x ≠ y:=by
 obtain ⟨a1,a2⟩:=List.getElem?_eq_some_iff.1 hi
 obtain ⟨b1,b2⟩:=List.getElem?_eq_some_iff.1 hk
 have:=List.pairwise_iff_getElem.1 h k i b1 a1 hne
 rw [a2,b2] at this
 exact fun e=>this e.symm
theorem kLoop (W:World) (i:Nat) (hi:i<nums.length):∀ (j k:Nat),i - k=j->k<=i->LoopC Tryz.prog W [] (nslots Tryz.prog 3) (loopOf Tryz.prog 3 2) (U3 nums nms0 i k) (.exit 4) (U3 nums nms0 i i):=by
 have hL:=lens
 have hlen:nums.length<2 ^ 62:=by decide
 intro j
 induction j with
 | zero =>
  intro k hj hk
  obtain rfl:k=i:=by omega
  exact loop_last (by simp) (body_of_sbodyK mixedz (b3k_3 W nums nms0 0 0 0 [] [] k k 0 true) ⟨by simp,trivial⟩ [] [] zM)
 | succ j ih =>
  intro k hj hk
  obtain ⟨n,hn⟩:=getOf (l:=nums) (i:=i) (by omega)
  obtain ⟨x,hx⟩:=getOf (l:=nms0) (i:=i) (by omega)
  obtain ⟨m,hm⟩:=getOf (l:=nums) (i:=k) (by omega)
  obtain ⟨y,hy⟩:=getOf (l:=nms0) (i:=k) (by omega)
  have hws:IntKind.i64.wrap ((k:Int)+1)=((k+1:Nat):Int):=wrap_succ (by omega)
  refine loop_next (body_of_sbodyK mixedz (b3k_2 W nums nms0 0 n m x y i k 0 true) ?_ [] [] (σ3:=U3 nums nms0 i (k+1)) (by rw [hws];exact zM)) (ih (k+1) (by omega) (by omega))
  have c1:decide (n=m)=false:=decide_eq_false (get_ne nodI hn hm (by omega))
  have c2:decide (x=y)=false:=decide_eq_false (get_ne nodS hx hy (by omega))
  have c3:(nums.map iA)[((i:Int)).toNat]?=some (iA n):=by rw [Int.toNat_natCast];exact i_get hn
  have c4:(nums.map iA)[((k:Int)).toNat]?=some (iA m):=by rw [Int.toNat_natCast];exact i_get hm
  have c5:(nms0.map AV.str)[((i:Int)).toNat]?=some (AV.str x):=by rw [Int.toNat_natCast];exact strs_get hx
  have c6:(nms0.map AV.str)[((k:Int)).toNat]?=some (AV.str y):=by rw [Int.toNat_natCast];exact strs_get hy
  have c7:decide ((k:Int)<(i:Int))=true:=decide_eq_true (by omega)
  simp only [Holds,and_true]
  and_intros<;>assumption
theorem iLoop (W:World):∀ (j i:Nat),nums.length - i=j->i<=nums.length->LoopC Tryz.prog W [] (nslots Tryz.prog 3) (loopOf Tryz.prog 3 1) (T3 nums nms0 i) (.exit 2) (T3 nums nms0 nums.length):=by
 have hlen:nums.length<2 ^ 62:=by decide
 intro j
 induction j with
 | zero =>
  intro i hj hi
  obtain rfl:i=nums.length:=by omega
  exact loop_last (by simp) (body_of_sbodyK mixedz (b3i_1 W nums nms0 0 0 0 [] [] nums.length 0 0 true) ⟨by rw [List.length_map];exact decide_eq_false (by omega),trivial⟩ [] [] zM)
 | succ j ih =>
  intro i hj hi
  have hws:IntKind.i64.wrap ((i:Int)+1)=((i+1:Nat):Int):=wrap_succ (by omega)
  exact loop_next (body_of_sbodyK mixedz (b3i_0 W nums nms0 0 0 0 [] [] i 0 0 true) ⟨kLoop W i (by omega) _ 0 rfl (by omega),zM,by rw [List.length_map];exact decide_eq_true (by omega),trivial⟩ [] [] (σ3:=T3 nums nms0 (i+1)) (by rw [hws];exact zM)) (ih (i+1) (by omega) (by omega))
theorem names3 (W:World) (h7:MutC Tryz.prog W 7 [] [] (.ret (bA true) [])):MutC Tryz.prog W 3 [] [] (.ret (bA true) []) :=
 mut_of_sfun mixedz call3 rfl (p3_0 W nums nms0 0 0 0 [] [] 0 0 nums.length true) ⟨h7,iLoop W _ 0 rfl (by omega),zM,eLoop W _ (-5) rfl (by decide) (by decide),zM,mut4 W,trivial⟩
end Go.Ac

