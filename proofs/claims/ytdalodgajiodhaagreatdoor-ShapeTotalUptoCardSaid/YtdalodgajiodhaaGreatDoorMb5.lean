/- What is proved: contracts of functions of this translation, walked; their plain meaning. No condition beyond those that each theorem names. -/
import Derived.Test.YtdalodgajiodhaaGreatDoorIe4
import Derived.Test.YtdalodgajiodhaaGreatDoorMb4
import Derived.Test.YtdalodgajiodhaaGreatDoorMb3
set_option linter.all false
namespace Go.Ac
open Go Go.Proofs
set_option maxRecDepth 10000
set_option maxHeartbeats 1000000
namespace De
open Dd
abbrev KS:=List (List (List UInt8)×Bool)
structure GDoc where
 id:List UInt8
 ver:Int
 h:JH
 l:List JV
 ok:GV (.mk h l)
def GDoc.doc (x:GDoc):Doc:=⟨x.id,x.ver,.mk x.h x.l⟩
def docG (x:GDoc):AV:=.agg [.str x.id,iA x.ver,iA x.h.kind,iA x.h.int,.str x.h.text,.sl 1 (x.h.names.map AV.str) [],.sl 5 (encVs x.l) []]
def docsG (D:List GDoc):List AV:=D.map docG
def gcmS (KK:KS):AV:=.fn (.func 13) [sortA KK] []
theorem gcmS_clo (KK:KS):(gcmS KK).clo=true:=by unfold gcmS sortA;simp only [AV.clo,cloL,kys_clo,Bool.and_self]
def garrD (D:List GDoc):List (Nat×GE):=[(100000,.arr 40 7 (docsG D) .own)]
def gSins (KK:KS) (D:List GDoc) (a b i:Nat):AS:=⟨[(0,.gs 100000 0 D.length),(1,iA a),(2,iA b),(3,(gcmS KK)),(8,iA i)],garrD D⟩
def gTins (KK:KS) (D:List GDoc) (a b i j:Nat):AS:=⟨[(0,.gs 100000 0 D.length),(1,iA a),(2,iA b),(3,(gcmS KK)),(8,iA i),(9,iA j)],garrD D⟩
def gSswp (D:List GDoc) (a b n i:Nat):AS:=⟨[(0,.gs 100000 0 D.length),(1,iA a),(2,iA b),(3,iA n),(10,iA i)],garrD D⟩
def gSrot (KK:KS) (D:List GDoc) (m i j:Nat):AS:=⟨[(0,.gs 100000 0 D.length),(2,iA m),(4,(gcmS KK)),(10,iA i),(11,iA j)],garrD D⟩
def gSsy0 (KK:KS) (D:List GDoc) (a i j:Nat):AS:=⟨[(0,.gs 100000 0 D.length),(1,iA a),(4,(gcmS KK)),(10,iA i),(11,iA j)],garrD D⟩
def gSsy1 (D:List GDoc) (i:Int) (k:Nat):AS:=⟨[(0,.gs 100000 0 D.length),(10,iA i),(13,iA k)],garrD D⟩
def gSsy2 (KK:KS) (D:List GDoc) (m i j:Nat):AS:=⟨[(0,.gs 100000 0 D.length),(2,iA m),(4,(gcmS KK)),(14,iA i),(15,iA j)],garrD D⟩
def gSsy3 (D:List GDoc) (i k:Nat):AS:=⟨[(0,.gs 100000 0 D.length),(14,iA i),(17,iA k)],garrD D⟩
def gSsy4 (KK:KS) (D:List GDoc) (a m b mid n i j p:Nat):AS:=⟨[(0,.gs 100000 0 D.length),(1,iA a),(2,iA m),(3,iA b),(4,(gcmS KK)),(18,iA mid),(19,iA n),(20,iA i),(21,iA j),(22,iA p)],garrD D⟩
def gSst0 (KK:KS) (D:List GDoc) (n bs a b:Nat):AS:=⟨[(0,.gs 100000 0 D.length),(1,iA n),(2,(gcmS KK)),(6,iA bs),(7,iA a),(8,iA b)],garrD D⟩
def gSst1 (KK:KS) (D:List GDoc) (n bs:Nat):AS:=⟨[(0,.gs 100000 0 D.length),(1,iA n),(2,(gcmS KK)),(6,iA bs)],garrD D⟩
def gEst (D:List GDoc):AS:=⟨[],garrD D⟩
theorem ginsF_0 (W:World) (KK:KS) (D D2:List GDoc) (a b:Nat):sF W {lp:=true,ol:=true,fin:=9,tl:=[]} 95 [.gs 100000 0 D.length,iA a,iA b,(gcmS KK)] (garrD D) 100001 [ee,.loopM [] [] (gSins KK D a b (a+1)) (.exit 0) (gEst D2),ee,.fin [] [] (.tup []) (garrD D2),ee] []=.ok (.ret (.tup []) (garrD D2),[ee],[MatchK [100000] [] [] {t:=[(0,.tup [])],h:=(garrD D2)} {t:=[(0,.tup [])],h:=(garrD D2)},LZ W [100000] 95 0 (gSins KK D a b (a+1)) (.exit 0) (gEst D2),MatchK [100000] [] [] {t:=[(0,.gs 100000 0 D.length),(1,iA (a:Int)),(2,iA (b:Int)),(3,(gcmS KK)),(8,iA (IntKind.i64.wrap ((a:Int)+1)))],h:=(garrD D)} {t:=[(0,.gs 100000 0 D.length),(1,iA (a:Int)),(2,iA (b:Int)),(3,(gcmS KK)),(8,iA (↑(a+1):Int))],h:=(garrD D)}]):=kr
theorem gswpF_0 (W:World) (KK:KS) (D D2:List GDoc) (a b n:Nat):sF W {lp:=true,ol:=true,fin:=9,tl:=[]} 121 [.gs 100000 0 D.length,iA a,iA b,iA n,(gcmS KK)] (garrD D) 100001 [ee,.loopM [] [] (gSswp D a b n 0) (.exit 0) (gEst D2),ee,.fin [] [] (.tup []) (garrD D2),ee] []=.ok (.ret (.tup []) (garrD D2),[ee],[MatchK [100000] [] [] {t:=[(0,.tup [])],h:=(garrD D2)} {t:=[(0,.tup [])],h:=(garrD D2)},LZ W [100000] 121 0 (gSswp D a b n 0) (.exit 0) (gEst D2),MatchK [100000] [] [] {t:=[(0,.gs 100000 0 D.length),(1,iA (a:Int)),(2,iA (b:Int)),(3,iA (n:Int)),(10,iA 0)],h:=(garrD D)} {t:=[(0,.gs 100000 0 D.length),(1,iA (a:Int)),(2,iA (b:Int)),(3,iA (n:Int)),(10,iA 0)],h:=(garrD D)}]):=kr
theorem grotF_0 (W:World) (KK:KS) (D D1 D2:List GDoc) (a b i j k m:Nat):sF W {lp:=true,ol:=true,fin:=9,tl:=[121]} 108 [.gs 100000 0 D.length,iA a,iA m,iA b,(gcmS KK)] (garrD D) 100001 [ee,.loopM [] [] (gSrot KK D m i j) (.exit 0) {t:=[(0,.gs 100000 0 D1.length),(2,iA (m:Int)),(4,(gcmS KK)),(10,iA (k:Int))],h:=garrD D1},.lg,ee,cR (.tup []) (garrD D2),ee,.fin [] [] (.tup []) (garrD D2),ee] []=.ok (.ret (.tup []) (garrD D2),[ee],[MatchK [100000] [] [] {t:=[(0,.tup [])],h:=(garrD D2)} {t:=[(0,.tup [])],h:=(garrD D2)},MZ W 121 [.gs 100000 0 D1.length,iA (IntKind.i64.wrap ((m:Int) - (k:Int))),iA (m:Int),iA (k:Int),(gcmS KK)] (garrD D1) (.ret (.tup []) (garrD D2)),cloHs (garrD D1),LZ W [100000] 108 0 (gSrot KK D m i j) (.exit 0) {t:=[(0,.gs 100000 0 D1.length),(2,iA (m:Int)),(4,(gcmS KK)),(10,iA (k:Int))],h:=garrD D1},MatchK [100000] [] [] {t:=[(0,.gs 100000 0 D.length),(2,iA (m:Int)),(4,(gcmS KK)),(10,iA (IntKind.i64.wrap ((m:Int) - (a:Int)))),(11,iA (IntKind.i64.wrap ((b:Int) - (m:Int))))],h:=(garrD D)} {t:=[(0,.gs 100000 0 D.length),(2,iA (m:Int)),(4,(gcmS KK)),(10,iA (i:Int)),(11,iA (j:Int))],h:=(garrD D)}]):=kr
theorem gsymA_0 (W:World) (KK:KS) (D D2:List GDoc) (a b i m:Nat):sF W {lp:=true,ol:=true,fin:=9,tl:=[]} 96 [.gs 100000 0 D.length,iA a,iA m,iA b,(gcmS KK)] (garrD D) 100001 [bt,ee,.loopM [] [] (gSsy0 KK D a m b) (.exit 0) {t:=[(0,.gs 100000 0 D.length),(1,iA (a:Int)),(10,iA (i:Int))],h:=garrD D},ee,.loopM [] [] (gSsy1 D (i:Int) a) (.exit 2) (gEst D2),ee,.fin [] [] (.tup []) (garrD D2),ee] []=.ok (.ret (.tup []) (garrD D2),[ee],[MatchK [100000] [] [] {t:=[(0,.tup [])],h:=(garrD D2)} {t:=[(0,.tup [])],h:=(garrD D2)},LZ W [100000] 96 1 (gSsy1 D (i:Int) a) (.exit 2) (gEst D2),MatchK [100000] [] [] {t:=[(0,.gs 100000 0 D.length),(10,iA (i:Int)),(13,iA (a:Int))],h:=(garrD D)} {t:=[(0,.gs 100000 0 D.length),(10,iA (i:Int)),(13,iA (a:Int))],h:=(garrD D)},LZ W [100000] 96 0 (gSsy0 KK D a m b) (.exit 0) {t:=[(0,.gs 100000 0 D.length),(1,iA (a:Int)),(10,iA (i:Int))],h:=garrD D},MatchK [100000] [] [] {t:=[(0,.gs 100000 0 D.length),(1,iA (a:Int)),(4,(gcmS KK)),(10,iA (m:Int)),(11,iA (b:Int))],h:=(garrD D)} {t:=[(0,.gs 100000 0 D.length),(1,iA (a:Int)),(4,(gcmS KK)),(10,iA (m:Int)),(11,iA (b:Int))],h:=(garrD D)},decide (IntKind.i64.wrap ((m:Int) - (a:Int))=1)=true]):=kr
theorem gsymB_0 (W:World) (KK:KS) (D D2:List GDoc) (a b i m:Nat):sF W {lp:=true,ol:=true,fin:=9,tl:=[]} 96 [.gs 100000 0 D.length,iA a,iA m,iA b,(gcmS KK)] (garrD D) 100001 [bf,bt,ee,.loopM [] [] (gSsy2 KK D m a m) (.exit 4) {t:=[(0,.gs 100000 0 D.length),(2,iA (m:Int)),(14,iA (i:Int))],h:=garrD D},ee,.loopM [] [] (gSsy3 D i m) (.exit 6) (gEst D2),ee,.fin [] [] (.tup []) (garrD D2),ee] []=.ok (.ret (.tup []) (garrD D2),[ee],[MatchK [100000] [] [] {t:=[(0,.tup [])],h:=(garrD D2)} {t:=[(0,.tup [])],h:=(garrD D2)},LZ W [100000] 96 3 (gSsy3 D i m) (.exit 6) (gEst D2),MatchK [100000] [] [] {t:=[(0,.gs 100000 0 D.length),(14,iA (i:Int)),(17,iA (m:Int))],h:=(garrD D)} {t:=[(0,.gs 100000 0 D.length),(14,iA (i:Int)),(17,iA (m:Int))],h:=(garrD D)},LZ W [100000] 96 2 (gSsy2 KK D m a m) (.exit 4) {t:=[(0,.gs 100000 0 D.length),(2,iA (m:Int)),(14,iA (i:Int))],h:=garrD D},MatchK [100000] [] [] {t:=[(0,.gs 100000 0 D.length),(2,iA (m:Int)),(4,(gcmS KK)),(14,iA (a:Int)),(15,iA (m:Int))],h:=(garrD D)} {t:=[(0,.gs 100000 0 D.length),(2,iA (m:Int)),(4,(gcmS KK)),(14,iA (a:Int)),(15,iA (m:Int))],h:=(garrD D)},decide (IntKind.i64.wrap ((b:Int) - (m:Int))=1)=true,decide (IntKind.i64.wrap ((m:Int) - (a:Int))=1)=false]):=kr
theorem gsymLTTTT_0 (W:World) (KK:KS) (D D1 D2 D3:List GDoc) (a b n i j m p mid st:Nat):sF W {lp:=true,ol:=true,fin:=9,tl:=[108,96]} 96 [.gs 100000 0 D.length,iA a,iA m,iA b,(gcmS KK)] (garrD D) 100001 [bf,bf,aE 1,bt,ee,.loopM [] [] (gSsy4 KK D a m b mid n i j p) (.exit 8) {t:=[(0,.gs 100000 0 D.length),(1,iA (a:Int)),(2,iA (m:Int)),(3,iA (b:Int)),(4,(gcmS KK)),(18,iA (mid:Int)),(19,iA (n:Int)),(20,iA (st:Int))],h:=garrD D},bt,bt,bt,bt,bt,.lg,ee,cR (.tup []) (garrD D1),bt,bt,bt,bt,bt,.lg,ee,cR (.tup []) (garrD D2),bt,bt,bt,bt,bt,.lg,ee,cR (.tup []) (garrD D3),ee,.fin [] [] (.tup []) (garrD D3),ee] []=.ok (.ret (.tup []) (garrD D3),[ee],MatchK [100000] [] [] {t:=[(0,.tup [])],h:=(garrD D3)} {t:=[(0,.tup [])],h:=(garrD D3)}::MZ W 96 [.gs 100000 0 D.length,iA (mid:Int),iA (IntKind.i64.wrap ((n:Int) - (st:Int))),iA (b:Int),(gcmS KK)] (garrD D2) (.ret (.tup []) (garrD D3))::cloHs (garrD D2)::(decide (IntKind.i64.wrap ((n:Int) - (st:Int))<(b:Int))=true)::(d4 (decide ((mid:Int)<IntKind.i64.wrap ((n:Int) - (st:Int)))=true) (MZ W 96 [.gs 100000 0 D.length,iA (a:Int),iA (st:Int),iA (mid:Int),(gcmS KK)] (garrD D1) (.ret (.tup []) (garrD D2))::cloHs (garrD D1)::(decide ((st:Int)<(mid:Int))=true)::(d4 (decide ((a:Int)<(st:Int))=true) (MZ W 108 [.gs 100000 0 D.length,iA (st:Int),iA (m:Int),iA (IntKind.i64.wrap ((n:Int) - (st:Int))),(gcmS KK)] (garrD D) (.ret (.tup []) (garrD D1))::cloHs (garrD D)::(decide ((m:Int)<IntKind.i64.wrap ((n:Int) - (st:Int)))=true)::(d4 (decide ((st:Int)<(m:Int))=true) [LZ W [100000] 96 4 (gSsy4 KK D a m b mid n i j p) (.exit 8) {t:=[(0,.gs 100000 0 D.length),(1,iA (a:Int)),(2,iA (m:Int)),(3,iA (b:Int)),(4,(gcmS KK)),(18,iA (mid:Int)),(19,iA (n:Int)),(20,iA (st:Int))],h:=garrD D},MatchK [100000] [] [] {t:=[(0,.gs 100000 0 D.length),(1,iA (a:Int)),(2,iA (m:Int)),(3,iA (b:Int)),(4,(gcmS KK)),(18,iA (IntKind.i64.wrap ((IntKind.u64.wrap (IntKind.i64.wrap ((a:Int)+(b:Int)))).fdiv 2))),(19,iA (IntKind.i64.wrap (IntKind.i64.wrap ((IntKind.u64.wrap (IntKind.i64.wrap ((a:Int)+(b:Int)))).fdiv 2)+(m:Int)))),(20,iA (IntKind.i64.wrap (IntKind.i64.wrap (IntKind.i64.wrap ((IntKind.u64.wrap (IntKind.i64.wrap ((a:Int)+(b:Int)))).fdiv 2)+(m:Int)) - (b:Int)))),(21,iA (IntKind.i64.wrap ((IntKind.u64.wrap (IntKind.i64.wrap ((a:Int)+(b:Int)))).fdiv 2))),(22,iA (IntKind.i64.wrap (IntKind.i64.wrap (IntKind.i64.wrap ((IntKind.u64.wrap (IntKind.i64.wrap ((a:Int)+(b:Int)))).fdiv 2)+(m:Int)) - 1)))],h:=(garrD D)} {t:=[(0,.gs 100000 0 D.length),(1,iA (a:Int)),(2,iA (m:Int)),(3,iA (b:Int)),(4,(gcmS KK)),(18,iA (mid:Int)),(19,iA (n:Int)),(20,iA (i:Int)),(21,iA (j:Int)),(22,iA (p:Int))],h:=(garrD D)},decide (IntKind.i64.wrap ((IntKind.u64.wrap (IntKind.i64.wrap ((a:Int)+(b:Int)))).fdiv 2)<(m:Int))=true,decide (IntKind.i64.wrap ((b:Int) - (m:Int))=1)=false,decide (IntKind.i64.wrap ((m:Int) - (a:Int))=1)=false])))))):=kr
theorem gsymLTTTF_0 (W:World) (KK:KS) (D D1 D2:List GDoc) (a b n i j m p mid st:Nat):sF W {lp:=true,ol:=true,fin:=9,tl:=[108,96]} 96 [.gs 100000 0 D.length,iA a,iA m,iA b,(gcmS KK)] (garrD D) 100001 [bf,bf,aE 1,bt,ee,.loopM [] [] (gSsy4 KK D a m b mid n i j p) (.exit 8) {t:=[(0,.gs 100000 0 D.length),(1,iA (a:Int)),(2,iA (m:Int)),(3,iA (b:Int)),(4,(gcmS KK)),(18,iA (mid:Int)),(19,iA (n:Int)),(20,iA (st:Int))],h:=garrD D},bt,bt,bt,bt,bt,.lg,ee,cR (.tup []) (garrD D1),bt,bt,bt,bt,bt,.lg,ee,cR (.tup []) (garrD D2),bt,bt,bt,bt,bf,ee,.fin [] [] (.tup []) (garrD D2),ee] []=.ok (.ret (.tup []) (garrD D2),[ee],MatchK [100000] [] [] {t:=[(0,.tup [])],h:=(garrD D2)} {t:=[(0,.tup [])],h:=(garrD D2)}::(decide (IntKind.i64.wrap ((n:Int) - (st:Int))<(b:Int))=false)::(d4 (decide ((mid:Int)<IntKind.i64.wrap ((n:Int) - (st:Int)))=true) (MZ W 96 [.gs 100000 0 D.length,iA (a:Int),iA (st:Int),iA (mid:Int),(gcmS KK)] (garrD D1) (.ret (.tup []) (garrD D2))::cloHs (garrD D1)::(decide ((st:Int)<(mid:Int))=true)::(d4 (decide ((a:Int)<(st:Int))=true) (MZ W 108 [.gs 100000 0 D.length,iA (st:Int),iA (m:Int),iA (IntKind.i64.wrap ((n:Int) - (st:Int))),(gcmS KK)] (garrD D) (.ret (.tup []) (garrD D1))::cloHs (garrD D)::(decide ((m:Int)<IntKind.i64.wrap ((n:Int) - (st:Int)))=true)::(d4 (decide ((st:Int)<(m:Int))=true) [LZ W [100000] 96 4 (gSsy4 KK D a m b mid n i j p) (.exit 8) {t:=[(0,.gs 100000 0 D.length),(1,iA (a:Int)),(2,iA (m:Int)),(3,iA (b:Int)),(4,(gcmS KK)),(18,iA (mid:Int)),(19,iA (n:Int)),(20,iA (st:Int))],h:=garrD D},MatchK [100000] [] [] {t:=[(0,.gs 100000 0 D.length),(1,iA (a:Int)),(2,iA (m:Int)),(3,iA (b:Int)),(4,(gcmS KK)),(18,iA (IntKind.i64.wrap ((IntKind.u64.wrap (IntKind.i64.wrap ((a:Int)+(b:Int)))).fdiv 2))),(19,iA (IntKind.i64.wrap (IntKind.i64.wrap ((IntKind.u64.wrap (IntKind.i64.wrap ((a:Int)+(b:Int)))).fdiv 2)+(m:Int)))),(20,iA (IntKind.i64.wrap (IntKind.i64.wrap (IntKind.i64.wrap ((IntKind.u64.wrap (IntKind.i64.wrap ((a:Int)+(b:Int)))).fdiv 2)+(m:Int)) - (b:Int)))),(21,iA (IntKind.i64.wrap ((IntKind.u64.wrap (IntKind.i64.wrap ((a:Int)+(b:Int)))).fdiv 2))),(22,iA (IntKind.i64.wrap (IntKind.i64.wrap (IntKind.i64.wrap ((IntKind.u64.wrap (IntKind.i64.wrap ((a:Int)+(b:Int)))).fdiv 2)+(m:Int)) - 1)))],h:=(garrD D)} {t:=[(0,.gs 100000 0 D.length),(1,iA (a:Int)),(2,iA (m:Int)),(3,iA (b:Int)),(4,(gcmS KK)),(18,iA (mid:Int)),(19,iA (n:Int)),(20,iA (i:Int)),(21,iA (j:Int)),(22,iA (p:Int))],h:=(garrD D)},decide (IntKind.i64.wrap ((IntKind.u64.wrap (IntKind.i64.wrap ((a:Int)+(b:Int)))).fdiv 2)<(m:Int))=true,decide (IntKind.i64.wrap ((b:Int) - (m:Int))=1)=false,decide (IntKind.i64.wrap ((m:Int) - (a:Int))=1)=false])))))):=kr
theorem gsymLTTFT_0 (W:World) (KK:KS) (D D1 D3:List GDoc) (a b n i j m p mid st:Nat):sF W {lp:=true,ol:=true,fin:=9,tl:=[108,96]} 96 [.gs 100000 0 D.length,iA a,iA m,iA b,(gcmS KK)] (garrD D) 100001 [bf,bf,aE 1,bt,ee,.loopM [] [] (gSsy4 KK D a m b mid n i j p) (.exit 8) {t:=[(0,.gs 100000 0 D.length),(1,iA (a:Int)),(2,iA (m:Int)),(3,iA (b:Int)),(4,(gcmS KK)),(18,iA (mid:Int)),(19,iA (n:Int)),(20,iA (st:Int))],h:=garrD D},bt,bt,bt,bt,bt,.lg,ee,cR (.tup []) (garrD D1),bf,bf,bf,bf,aE 1,bt,bt,bt,bt,bt,.lg,ee,cR (.tup []) (garrD D3),ee,.fin [] [] (.tup []) (garrD D3),ee] []=.ok (.ret (.tup []) (garrD D3),[ee],MatchK [100000] [] [] {t:=[(0,.tup [])],h:=(garrD D3)} {t:=[(0,.tup [])],h:=(garrD D3)}::MZ W 96 [.gs 100000 0 D.length,iA (mid:Int),iA (IntKind.i64.wrap ((n:Int) - (st:Int))),iA (b:Int),(gcmS KK)] (garrD D1) (.ret (.tup []) (garrD D3))::cloHs (garrD D1)::(decide (IntKind.i64.wrap ((n:Int) - (st:Int))<(b:Int))=true)::(d4 (decide ((mid:Int)<IntKind.i64.wrap ((n:Int) - (st:Int)))=true) (d4 (decide ((a:Int)<(st:Int))=false) (MZ W 108 [.gs 100000 0 D.length,iA (st:Int),iA (m:Int),iA (IntKind.i64.wrap ((n:Int) - (st:Int))),(gcmS KK)] (garrD D) (.ret (.tup []) (garrD D1))::cloHs (garrD D)::(decide ((m:Int)<IntKind.i64.wrap ((n:Int) - (st:Int)))=true)::(d4 (decide ((st:Int)<(m:Int))=true) [LZ W [100000] 96 4 (gSsy4 KK D a m b mid n i j p) (.exit 8) {t:=[(0,.gs 100000 0 D.length),(1,iA (a:Int)),(2,iA (m:Int)),(3,iA (b:Int)),(4,(gcmS KK)),(18,iA (mid:Int)),(19,iA (n:Int)),(20,iA (st:Int))],h:=garrD D},MatchK [100000] [] [] {t:=[(0,.gs 100000 0 D.length),(1,iA (a:Int)),(2,iA (m:Int)),(3,iA (b:Int)),(4,(gcmS KK)),(18,iA (IntKind.i64.wrap ((IntKind.u64.wrap (IntKind.i64.wrap ((a:Int)+(b:Int)))).fdiv 2))),(19,iA (IntKind.i64.wrap (IntKind.i64.wrap ((IntKind.u64.wrap (IntKind.i64.wrap ((a:Int)+(b:Int)))).fdiv 2)+(m:Int)))),(20,iA (IntKind.i64.wrap (IntKind.i64.wrap (IntKind.i64.wrap ((IntKind.u64.wrap (IntKind.i64.wrap ((a:Int)+(b:Int)))).fdiv 2)+(m:Int)) - (b:Int)))),(21,iA (IntKind.i64.wrap ((IntKind.u64.wrap (IntKind.i64.wrap ((a:Int)+(b:Int)))).fdiv 2))),(22,iA (IntKind.i64.wrap (IntKind.i64.wrap (IntKind.i64.wrap ((IntKind.u64.wrap (IntKind.i64.wrap ((a:Int)+(b:Int)))).fdiv 2)+(m:Int)) - 1)))],h:=(garrD D)} {t:=[(0,.gs 100000 0 D.length),(1,iA (a:Int)),(2,iA (m:Int)),(3,iA (b:Int)),(4,(gcmS KK)),(18,iA (mid:Int)),(19,iA (n:Int)),(20,iA (i:Int)),(21,iA (j:Int)),(22,iA (p:Int))],h:=(garrD D)},decide (IntKind.i64.wrap ((IntKind.u64.wrap (IntKind.i64.wrap ((a:Int)+(b:Int)))).fdiv 2)<(m:Int))=true,decide (IntKind.i64.wrap ((b:Int) - (m:Int))=1)=false,decide (IntKind.i64.wrap ((m:Int) - (a:Int))=1)=false]))))):=kr
theorem gsymLTTFF_0 (W:World) (KK:KS) (D D1:List GDoc) (a b n i j m p mid st:Nat):sF W {lp:=true,ol:=true,fin:=9,tl:=[108,96]} 96 [.gs 100000 0 D.length,iA a,iA m,iA b,(gcmS KK)] (garrD D) 100001 [bf,bf,aE 1,bt,ee,.loopM [] [] (gSsy4 KK D a m b mid n i j p) (.exit 8) {t:=[(0,.gs 100000 0 D.length),(1,iA (a:Int)),(2,iA (m:Int)),(3,iA (b:Int)),(4,(gcmS KK)),(18,iA (mid:Int)),(19,iA (n:Int)),(20,iA (st:Int))],h:=garrD D},bt,bt,bt,bt,bt,.lg,ee,cR (.tup []) (garrD D1),bf,bf,bf,bf,aE 1,bt,bt,bt,bt,bf,ee,.fin [] [] (.tup []) (garrD D1),ee] []=.ok (.ret (.tup []) (garrD D1),[ee],MatchK [100000] [] [] {t:=[(0,.tup [])],h:=(garrD D1)} {t:=[(0,.tup [])],h:=(garrD D1)}::(decide (IntKind.i64.wrap ((n:Int) - (st:Int))<(b:Int))=false)::(d4 (decide ((mid:Int)<IntKind.i64.wrap ((n:Int) - (st:Int)))=true) (d4 (decide ((a:Int)<(st:Int))=false) (MZ W 108 [.gs 100000 0 D.length,iA (st:Int),iA (m:Int),iA (IntKind.i64.wrap ((n:Int) - (st:Int))),(gcmS KK)] (garrD D) (.ret (.tup []) (garrD D1))::cloHs (garrD D)::(decide ((m:Int)<IntKind.i64.wrap ((n:Int) - (st:Int)))=true)::(d4 (decide ((st:Int)<(m:Int))=true) [LZ W [100000] 96 4 (gSsy4 KK D a m b mid n i j p) (.exit 8) {t:=[(0,.gs 100000 0 D.length),(1,iA (a:Int)),(2,iA (m:Int)),(3,iA (b:Int)),(4,(gcmS KK)),(18,iA (mid:Int)),(19,iA (n:Int)),(20,iA (st:Int))],h:=garrD D},MatchK [100000] [] [] {t:=[(0,.gs 100000 0 D.length),(1,iA (a:Int)),(2,iA (m:Int)),(3,iA (b:Int)),(4,(gcmS KK)),(18,iA (IntKind.i64.wrap ((IntKind.u64.wrap (IntKind.i64.wrap ((a:Int)+(b:Int)))).fdiv 2))),(19,iA (IntKind.i64.wrap (IntKind.i64.wrap ((IntKind.u64.wrap (IntKind.i64.wrap ((a:Int)+(b:Int)))).fdiv 2)+(m:Int)))),(20,iA (IntKind.i64.wrap (IntKind.i64.wrap (IntKind.i64.wrap ((IntKind.u64.wrap (IntKind.i64.wrap ((a:Int)+(b:Int)))).fdiv 2)+(m:Int)) - (b:Int)))),(21,iA (IntKind.i64.wrap ((IntKind.u64.wrap (IntKind.i64.wrap ((a:Int)+(b:Int)))).fdiv 2))),(22,iA (IntKind.i64.wrap (IntKind.i64.wrap (IntKind.i64.wrap ((IntKind.u64.wrap (IntKind.i64.wrap ((a:Int)+(b:Int)))).fdiv 2)+(m:Int)) - 1)))],h:=(garrD D)} {t:=[(0,.gs 100000 0 D.length),(1,iA (a:Int)),(2,iA (m:Int)),(3,iA (b:Int)),(4,(gcmS KK)),(18,iA (mid:Int)),(19,iA (n:Int)),(20,iA (i:Int)),(21,iA (j:Int)),(22,iA (p:Int))],h:=(garrD D)},decide (IntKind.i64.wrap ((IntKind.u64.wrap (IntKind.i64.wrap ((a:Int)+(b:Int)))).fdiv 2)<(m:Int))=true,decide (IntKind.i64.wrap ((b:Int) - (m:Int))=1)=false,decide (IntKind.i64.wrap ((m:Int) - (a:Int))=1)=false]))))):=kr
theorem gsymLTFTT_0 (W:World) (KK:KS) (D D3:List GDoc) (a b n i j m p mid st:Nat):sF W {lp:=true,ol:=true,fin:=9,tl:=[108,96]} 96 [.gs 100000 0 D.length,iA a,iA m,iA b,(gcmS KK)] (garrD D) 100001 [bf,bf,aE 1,bt,ee,.loopM [] [] (gSsy4 KK D a m b mid n i j p) (.exit 8) {t:=[(0,.gs 100000 0 D.length),(1,iA (a:Int)),(2,iA (m:Int)),(3,iA (b:Int)),(4,(gcmS KK)),(18,iA (mid:Int)),(19,iA (n:Int)),(20,iA (st:Int))],h:=garrD D},bt,bt,bt,bt,bf,bt,bt,bt,bt,bf,bt,bt,bt,bt,bt,.lg,ee,cR (.tup []) (garrD D3),ee,.fin [] [] (.tup []) (garrD D3),ee] []=.ok (.ret (.tup []) (garrD D3),[ee],MatchK [100000] [] [] {t:=[(0,.tup [])],h:=(garrD D3)} {t:=[(0,.tup [])],h:=(garrD D3)}::MZ W 96 [.gs 100000 0 D.length,iA (mid:Int),iA (IntKind.i64.wrap ((n:Int) - (st:Int))),iA (b:Int),(gcmS KK)] (garrD D) (.ret (.tup []) (garrD D3))::cloHs (garrD D)::(decide (IntKind.i64.wrap ((n:Int) - (st:Int))<(b:Int))=true)::(d4 (decide ((mid:Int)<IntKind.i64.wrap ((n:Int) - (st:Int)))=true) ((decide ((st:Int)<(mid:Int))=false)::(d4 (decide ((a:Int)<(st:Int))=true) ((decide ((m:Int)<IntKind.i64.wrap ((n:Int) - (st:Int)))=false)::(d4 (decide ((st:Int)<(m:Int))=true) [LZ W [100000] 96 4 (gSsy4 KK D a m b mid n i j p) (.exit 8) {t:=[(0,.gs 100000 0 D.length),(1,iA (a:Int)),(2,iA (m:Int)),(3,iA (b:Int)),(4,(gcmS KK)),(18,iA (mid:Int)),(19,iA (n:Int)),(20,iA (st:Int))],h:=garrD D},MatchK [100000] [] [] {t:=[(0,.gs 100000 0 D.length),(1,iA (a:Int)),(2,iA (m:Int)),(3,iA (b:Int)),(4,(gcmS KK)),(18,iA (IntKind.i64.wrap ((IntKind.u64.wrap (IntKind.i64.wrap ((a:Int)+(b:Int)))).fdiv 2))),(19,iA (IntKind.i64.wrap (IntKind.i64.wrap ((IntKind.u64.wrap (IntKind.i64.wrap ((a:Int)+(b:Int)))).fdiv 2)+(m:Int)))),(20,iA (IntKind.i64.wrap (IntKind.i64.wrap (IntKind.i64.wrap ((IntKind.u64.wrap (IntKind.i64.wrap ((a:Int)+(b:Int)))).fdiv 2)+(m:Int)) - (b:Int)))),(21,iA (IntKind.i64.wrap ((IntKind.u64.wrap (IntKind.i64.wrap ((a:Int)+(b:Int)))).fdiv 2))),(22,iA (IntKind.i64.wrap (IntKind.i64.wrap (IntKind.i64.wrap ((IntKind.u64.wrap (IntKind.i64.wrap ((a:Int)+(b:Int)))).fdiv 2)+(m:Int)) - 1)))],h:=(garrD D)} {t:=[(0,.gs 100000 0 D.length),(1,iA (a:Int)),(2,iA (m:Int)),(3,iA (b:Int)),(4,(gcmS KK)),(18,iA (mid:Int)),(19,iA (n:Int)),(20,iA (i:Int)),(21,iA (j:Int)),(22,iA (p:Int))],h:=(garrD D)},decide (IntKind.i64.wrap ((IntKind.u64.wrap (IntKind.i64.wrap ((a:Int)+(b:Int)))).fdiv 2)<(m:Int))=true,decide (IntKind.i64.wrap ((b:Int) - (m:Int))=1)=false,decide (IntKind.i64.wrap ((m:Int) - (a:Int))=1)=false])))))):=kr
theorem gsymHFTTN_0 (W:World) (KK:KS) (D D2:List GDoc) (a b n i j m p mid st:Nat):sF W {lp:=true,ol:=true,fin:=9,tl:=[108,96]} 96 [.gs 100000 0 D.length,iA a,iA m,iA b,(gcmS KK)] (garrD D) 100001 [bf,bf,aE 1,bf,ee,.loopM [] [] (gSsy4 KK D a m b mid n i j p) (.exit 8) {t:=[(0,.gs 100000 0 D.length),(1,iA (a:Int)),(2,iA (m:Int)),(3,iA (b:Int)),(4,(gcmS KK)),(18,iA (mid:Int)),(19,iA (n:Int)),(20,iA (st:Int))],h:=garrD D},bf,bf,bf,bf,aE 1,bt,bt,bt,bt,bt,.lg,ee,cR (.tup []) (garrD D2),bf,bf,bf,bf,ee,.fin [] [] (.tup []) (garrD D2),ee] []=.ok (.ret (.tup []) (garrD D2),[ee],MatchK [100000] [] [] {t:=[(0,.tup [])],h:=(garrD D2)} {t:=[(0,.tup [])],h:=(garrD D2)}::(d4 (decide ((mid:Int)<IntKind.i64.wrap ((n:Int) - (st:Int)))=false) (MZ W 96 [.gs 100000 0 D.length,iA (a:Int),iA (st:Int),iA (mid:Int),(gcmS KK)] (garrD D) (.ret (.tup []) (garrD D2))::cloHs (garrD D)::(decide ((st:Int)<(mid:Int))=true)::(d4 (decide ((a:Int)<(st:Int))=true) (d4 (decide ((st:Int)<(m:Int))=false) [LZ W [100000] 96 4 (gSsy4 KK D a m b mid n i j p) (.exit 8) {t:=[(0,.gs 100000 0 D.length),(1,iA (a:Int)),(2,iA (m:Int)),(3,iA (b:Int)),(4,(gcmS KK)),(18,iA (mid:Int)),(19,iA (n:Int)),(20,iA (st:Int))],h:=garrD D},MatchK [100000] [] [] {t:=[(0,.gs 100000 0 D.length),(1,iA (a:Int)),(2,iA (m:Int)),(3,iA (b:Int)),(4,(gcmS KK)),(18,iA (IntKind.i64.wrap ((IntKind.u64.wrap (IntKind.i64.wrap ((a:Int)+(b:Int)))).fdiv 2))),(19,iA (IntKind.i64.wrap (IntKind.i64.wrap ((IntKind.u64.wrap (IntKind.i64.wrap ((a:Int)+(b:Int)))).fdiv 2)+(m:Int)))),(20,iA (a:Int)),(21,iA (m:Int)),(22,iA (IntKind.i64.wrap (IntKind.i64.wrap (IntKind.i64.wrap ((IntKind.u64.wrap (IntKind.i64.wrap ((a:Int)+(b:Int)))).fdiv 2)+(m:Int)) - 1)))],h:=(garrD D)} {t:=[(0,.gs 100000 0 D.length),(1,iA (a:Int)),(2,iA (m:Int)),(3,iA (b:Int)),(4,(gcmS KK)),(18,iA (mid:Int)),(19,iA (n:Int)),(20,iA (i:Int)),(21,iA (j:Int)),(22,iA (p:Int))],h:=(garrD D)},decide (IntKind.i64.wrap ((IntKind.u64.wrap (IntKind.i64.wrap ((a:Int)+(b:Int)))).fdiv 2)<(m:Int))=false,decide (IntKind.i64.wrap ((b:Int) - (m:Int))=1)=false,decide (IntKind.i64.wrap ((m:Int) - (a:Int))=1)=false]))))):=kr
theorem gsymHFFTN_0 (W:World) (KK:KS) (D:List GDoc) (a b n i j m p mid st:Nat):sF W {lp:=true,ol:=true,fin:=9,tl:=[108,96]} 96 [.gs 100000 0 D.length,iA a,iA m,iA b,(gcmS KK)] (garrD D) 100001 [bf,bf,aE 1,bf,ee,.loopM [] [] (gSsy4 KK D a m b mid n i j p) (.exit 8) {t:=[(0,.gs 100000 0 D.length),(1,iA (a:Int)),(2,iA (m:Int)),(3,iA (b:Int)),(4,(gcmS KK)),(18,iA (mid:Int)),(19,iA (n:Int)),(20,iA (st:Int))],h:=garrD D},bf,bf,bf,bf,aE 1,bt,bt,bt,bt,bf,bf,bf,bf,bf,ee,.fin [] [] (.tup []) (garrD D),ee] []=.ok (.ret (.tup []) (garrD D),[ee],MatchK [100000] [] [] {t:=[(0,.tup [])],h:=(garrD D)} {t:=[(0,.tup [])],h:=(garrD D)}::(d4 (decide ((mid:Int)<IntKind.i64.wrap ((n:Int) - (st:Int)))=false) ((decide ((st:Int)<(mid:Int))=false)::(d4 (decide ((a:Int)<(st:Int))=true) (d4 (decide ((st:Int)<(m:Int))=false) [LZ W [100000] 96 4 (gSsy4 KK D a m b mid n i j p) (.exit 8) {t:=[(0,.gs 100000 0 D.length),(1,iA (a:Int)),(2,iA (m:Int)),(3,iA (b:Int)),(4,(gcmS KK)),(18,iA (mid:Int)),(19,iA (n:Int)),(20,iA (st:Int))],h:=garrD D},MatchK [100000] [] [] {t:=[(0,.gs 100000 0 D.length),(1,iA (a:Int)),(2,iA (m:Int)),(3,iA (b:Int)),(4,(gcmS KK)),(18,iA (IntKind.i64.wrap ((IntKind.u64.wrap (IntKind.i64.wrap ((a:Int)+(b:Int)))).fdiv 2))),(19,iA (IntKind.i64.wrap (IntKind.i64.wrap ((IntKind.u64.wrap (IntKind.i64.wrap ((a:Int)+(b:Int)))).fdiv 2)+(m:Int)))),(20,iA (a:Int)),(21,iA (m:Int)),(22,iA (IntKind.i64.wrap (IntKind.i64.wrap (IntKind.i64.wrap ((IntKind.u64.wrap (IntKind.i64.wrap ((a:Int)+(b:Int)))).fdiv 2)+(m:Int)) - 1)))],h:=(garrD D)} {t:=[(0,.gs 100000 0 D.length),(1,iA (a:Int)),(2,iA (m:Int)),(3,iA (b:Int)),(4,(gcmS KK)),(18,iA (mid:Int)),(19,iA (n:Int)),(20,iA (i:Int)),(21,iA (j:Int)),(22,iA (p:Int))],h:=(garrD D)},decide (IntKind.i64.wrap ((IntKind.u64.wrap (IntKind.i64.wrap ((a:Int)+(b:Int)))).fdiv 2)<(m:Int))=false,decide (IntKind.i64.wrap ((b:Int) - (m:Int))=1)=false,decide (IntKind.i64.wrap ((m:Int) - (a:Int))=1)=false]))))):=kr
theorem gsymHTTTT_0 (W:World) (KK:KS) (D D1 D2 D3:List GDoc) (a b n i j m p mid st:Nat):sF W {lp:=true,ol:=true,fin:=9,tl:=[108,96]} 96 [.gs 100000 0 D.length,iA a,iA m,iA b,(gcmS KK)] (garrD D) 100001 [bf,bf,aE 1,bf,ee,.loopM [] [] (gSsy4 KK D a m b mid n i j p) (.exit 8) {t:=[(0,.gs 100000 0 D.length),(1,iA (a:Int)),(2,iA (m:Int)),(3,iA (b:Int)),(4,(gcmS KK)),(18,iA (mid:Int)),(19,iA (n:Int)),(20,iA (st:Int))],h:=garrD D},bt,bt,bt,bt,bt,.lg,ee,cR (.tup []) (garrD D1),bt,bt,bt,bt,bt,.lg,ee,cR (.tup []) (garrD D2),bt,bt,bt,bt,bt,.lg,ee,cR (.tup []) (garrD D3),ee,.fin [] [] (.tup []) (garrD D3),ee] []=.ok (.ret (.tup []) (garrD D3),[ee],MatchK [100000] [] [] {t:=[(0,.tup [])],h:=(garrD D3)} {t:=[(0,.tup [])],h:=(garrD D3)}::MZ W 96 [.gs 100000 0 D.length,iA (mid:Int),iA (IntKind.i64.wrap ((n:Int) - (st:Int))),iA (b:Int),(gcmS KK)] (garrD D2) (.ret (.tup []) (garrD D3))::cloHs (garrD D2)::(decide (IntKind.i64.wrap ((n:Int) - (st:Int))<(b:Int))=true)::(d4 (decide ((mid:Int)<IntKind.i64.wrap ((n:Int) - (st:Int)))=true) (MZ W 96 [.gs 100000 0 D.length,iA (a:Int),iA (st:Int),iA (mid:Int),(gcmS KK)] (garrD D1) (.ret (.tup []) (garrD D2))::cloHs (garrD D1)::(decide ((st:Int)<(mid:Int))=true)::(d4 (decide ((a:Int)<(st:Int))=true) (MZ W 108 [.gs 100000 0 D.length,iA (st:Int),iA (m:Int),iA (IntKind.i64.wrap ((n:Int) - (st:Int))),(gcmS KK)] (garrD D) (.ret (.tup []) (garrD D1))::cloHs (garrD D)::(decide ((m:Int)<IntKind.i64.wrap ((n:Int) - (st:Int)))=true)::(d4 (decide ((st:Int)<(m:Int))=true) [LZ W [100000] 96 4 (gSsy4 KK D a m b mid n i j p) (.exit 8) {t:=[(0,.gs 100000 0 D.length),(1,iA (a:Int)),(2,iA (m:Int)),(3,iA (b:Int)),(4,(gcmS KK)),(18,iA (mid:Int)),(19,iA (n:Int)),(20,iA (st:Int))],h:=garrD D},MatchK [100000] [] [] {t:=[(0,.gs 100000 0 D.length),(1,iA (a:Int)),(2,iA (m:Int)),(3,iA (b:Int)),(4,(gcmS KK)),(18,iA (IntKind.i64.wrap ((IntKind.u64.wrap (IntKind.i64.wrap ((a:Int)+(b:Int)))).fdiv 2))),(19,iA (IntKind.i64.wrap (IntKind.i64.wrap ((IntKind.u64.wrap (IntKind.i64.wrap ((a:Int)+(b:Int)))).fdiv 2)+(m:Int)))),(20,iA (a:Int)),(21,iA (m:Int)),(22,iA (IntKind.i64.wrap (IntKind.i64.wrap (IntKind.i64.wrap ((IntKind.u64.wrap (IntKind.i64.wrap ((a:Int)+(b:Int)))).fdiv 2)+(m:Int)) - 1)))],h:=(garrD D)} {t:=[(0,.gs 100000 0 D.length),(1,iA (a:Int)),(2,iA (m:Int)),(3,iA (b:Int)),(4,(gcmS KK)),(18,iA (mid:Int)),(19,iA (n:Int)),(20,iA (i:Int)),(21,iA (j:Int)),(22,iA (p:Int))],h:=(garrD D)},decide (IntKind.i64.wrap ((IntKind.u64.wrap (IntKind.i64.wrap ((a:Int)+(b:Int)))).fdiv 2)<(m:Int))=false,decide (IntKind.i64.wrap ((b:Int) - (m:Int))=1)=false,decide (IntKind.i64.wrap ((m:Int) - (a:Int))=1)=false])))))):=kr
theorem gsymHTTTF_0 (W:World) (KK:KS) (D D1 D2:List GDoc) (a b n i j m p mid st:Nat):sF W {lp:=true,ol:=true,fin:=9,tl:=[108,96]} 96 [.gs 100000 0 D.length,iA a,iA m,iA b,(gcmS KK)] (garrD D) 100001 [bf,bf,aE 1,bf,ee,.loopM [] [] (gSsy4 KK D a m b mid n i j p) (.exit 8) {t:=[(0,.gs 100000 0 D.length),(1,iA (a:Int)),(2,iA (m:Int)),(3,iA (b:Int)),(4,(gcmS KK)),(18,iA (mid:Int)),(19,iA (n:Int)),(20,iA (st:Int))],h:=garrD D},bt,bt,bt,bt,bt,.lg,ee,cR (.tup []) (garrD D1),bt,bt,bt,bt,bt,.lg,ee,cR (.tup []) (garrD D2),bt,bt,bt,bt,bf,ee,.fin [] [] (.tup []) (garrD D2),ee] []=.ok (.ret (.tup []) (garrD D2),[ee],MatchK [100000] [] [] {t:=[(0,.tup [])],h:=(garrD D2)} {t:=[(0,.tup [])],h:=(garrD D2)}::(decide (IntKind.i64.wrap ((n:Int) - (st:Int))<(b:Int))=false)::(d4 (decide ((mid:Int)<IntKind.i64.wrap ((n:Int) - (st:Int)))=true) (MZ W 96 [.gs 100000 0 D.length,iA (a:Int),iA (st:Int),iA (mid:Int),(gcmS KK)] (garrD D1) (.ret (.tup []) (garrD D2))::cloHs (garrD D1)::(decide ((st:Int)<(mid:Int))=true)::(d4 (decide ((a:Int)<(st:Int))=true) (MZ W 108 [.gs 100000 0 D.length,iA (st:Int),iA (m:Int),iA (IntKind.i64.wrap ((n:Int) - (st:Int))),(gcmS KK)] (garrD D) (.ret (.tup []) (garrD D1))::cloHs (garrD D)::(decide ((m:Int)<IntKind.i64.wrap ((n:Int) - (st:Int)))=true)::(d4 (decide ((st:Int)<(m:Int))=true) [LZ W [100000] 96 4 (gSsy4 KK D a m b mid n i j p) (.exit 8) {t:=[(0,.gs 100000 0 D.length),(1,iA (a:Int)),(2,iA (m:Int)),(3,iA (b:Int)),(4,(gcmS KK)),(18,iA (mid:Int)),(19,iA (n:Int)),(20,iA (st:Int))],h:=garrD D},MatchK [100000] [] [] {t:=[(0,.gs 100000 0 D.length),(1,iA (a:Int)),(2,iA (m:Int)),(3,iA (b:Int)),(4,(gcmS KK)),(18,iA (IntKind.i64.wrap ((IntKind.u64.wrap (IntKind.i64.wrap ((a:Int)+(b:Int)))).fdiv 2))),(19,iA (IntKind.i64.wrap (IntKind.i64.wrap ((IntKind.u64.wrap (IntKind.i64.wrap ((a:Int)+(b:Int)))).fdiv 2)+(m:Int)))),(20,iA (a:Int)),(21,iA (m:Int)),(22,iA (IntKind.i64.wrap (IntKind.i64.wrap (IntKind.i64.wrap ((IntKind.u64.wrap (IntKind.i64.wrap ((a:Int)+(b:Int)))).fdiv 2)+(m:Int)) - 1)))],h:=(garrD D)} {t:=[(0,.gs 100000 0 D.length),(1,iA (a:Int)),(2,iA (m:Int)),(3,iA (b:Int)),(4,(gcmS KK)),(18,iA (mid:Int)),(19,iA (n:Int)),(20,iA (i:Int)),(21,iA (j:Int)),(22,iA (p:Int))],h:=(garrD D)},decide (IntKind.i64.wrap ((IntKind.u64.wrap (IntKind.i64.wrap ((a:Int)+(b:Int)))).fdiv 2)<(m:Int))=false,decide (IntKind.i64.wrap ((b:Int) - (m:Int))=1)=false,decide (IntKind.i64.wrap ((m:Int) - (a:Int))=1)=false])))))):=kr
theorem gsymHTTFT_0 (W:World) (KK:KS) (D D1 D3:List GDoc) (a b n i j m p mid st:Nat):sF W {lp:=true,ol:=true,fin:=9,tl:=[108,96]} 96 [.gs 100000 0 D.length,iA a,iA m,iA b,(gcmS KK)] (garrD D) 100001 [bf,bf,aE 1,bf,ee,.loopM [] [] (gSsy4 KK D a m b mid n i j p) (.exit 8) {t:=[(0,.gs 100000 0 D.length),(1,iA (a:Int)),(2,iA (m:Int)),(3,iA (b:Int)),(4,(gcmS KK)),(18,iA (mid:Int)),(19,iA (n:Int)),(20,iA (st:Int))],h:=garrD D},bt,bt,bt,bt,bt,.lg,ee,cR (.tup []) (garrD D1),bf,bf,bf,bf,aE 1,bt,bt,bt,bt,bt,.lg,ee,cR (.tup []) (garrD D3),ee,.fin [] [] (.tup []) (garrD D3),ee] []=.ok (.ret (.tup []) (garrD D3),[ee],MatchK [100000] [] [] {t:=[(0,.tup [])],h:=(garrD D3)} {t:=[(0,.tup [])],h:=(garrD D3)}::MZ W 96 [.gs 100000 0 D.length,iA (mid:Int),iA (IntKind.i64.wrap ((n:Int) - (st:Int))),iA (b:Int),(gcmS KK)] (garrD D1) (.ret (.tup []) (garrD D3))::cloHs (garrD D1)::(decide (IntKind.i64.wrap ((n:Int) - (st:Int))<(b:Int))=true)::(d4 (decide ((mid:Int)<IntKind.i64.wrap ((n:Int) - (st:Int)))=true) (d4 (decide ((a:Int)<(st:Int))=false) (MZ W 108 [.gs 100000 0 D.length,iA (st:Int),iA (m:Int),iA (IntKind.i64.wrap ((n:Int) - (st:Int))),(gcmS KK)] (garrD D) (.ret (.tup []) (garrD D1))::cloHs (garrD D)::(decide ((m:Int)<IntKind.i64.wrap ((n:Int) - (st:Int)))=true)::(d4 (decide ((st:Int)<(m:Int))=true) [LZ W [100000] 96 4 (gSsy4 KK D a m b mid n i j p) (.exit 8) {t:=[(0,.gs 100000 0 D.length),(1,iA (a:Int)),(2,iA (m:Int)),(3,iA (b:Int)),(4,(gcmS KK)),(18,iA (mid:Int)),(19,iA (n:Int)),(20,iA (st:Int))],h:=garrD D},MatchK [100000] [] [] {t:=[(0,.gs 100000 0 D.length),(1,iA (a:Int)),(2,iA (m:Int)),(3,iA (b:Int)),(4,(gcmS KK)),(18,iA (IntKind.i64.wrap ((IntKind.u64.wrap (IntKind.i64.wrap ((a:Int)+(b:Int)))).fdiv 2))),(19,iA (IntKind.i64.wrap (IntKind.i64.wrap ((IntKind.u64.wrap (IntKind.i64.wrap ((a:Int)+(b:Int)))).fdiv 2)+(m:Int)))),(20,iA (a:Int)),(21,iA (m:Int)),(22,iA (IntKind.i64.wrap (IntKind.i64.wrap (IntKind.i64.wrap ((IntKind.u64.wrap (IntKind.i64.wrap ((a:Int)+(b:Int)))).fdiv 2)+(m:Int)) - 1)))],h:=(garrD D)} {t:=[(0,.gs 100000 0 D.length),(1,iA (a:Int)),(2,iA (m:Int)),(3,iA (b:Int)),(4,(gcmS KK)),(18,iA (mid:Int)),(19,iA (n:Int)),(20,iA (i:Int)),(21,iA (j:Int)),(22,iA (p:Int))],h:=(garrD D)},decide (IntKind.i64.wrap ((IntKind.u64.wrap (IntKind.i64.wrap ((a:Int)+(b:Int)))).fdiv 2)<(m:Int))=false,decide (IntKind.i64.wrap ((b:Int) - (m:Int))=1)=false,decide (IntKind.i64.wrap ((m:Int) - (a:Int))=1)=false]))))):=kr
theorem gsymHTTFF_0 (W:World) (KK:KS) (D D1:List GDoc) (a b n i j m p mid st:Nat):sF W {lp:=true,ol:=true,fin:=9,tl:=[108,96]} 96 [.gs 100000 0 D.length,iA a,iA m,iA b,(gcmS KK)] (garrD D) 100001 [bf,bf,aE 1,bf,ee,.loopM [] [] (gSsy4 KK D a m b mid n i j p) (.exit 8) {t:=[(0,.gs 100000 0 D.length),(1,iA (a:Int)),(2,iA (m:Int)),(3,iA (b:Int)),(4,(gcmS KK)),(18,iA (mid:Int)),(19,iA (n:Int)),(20,iA (st:Int))],h:=garrD D},bt,bt,bt,bt,bt,.lg,ee,cR (.tup []) (garrD D1),bf,bf,bf,bf,aE 1,bt,bt,bt,bt,bf,ee,.fin [] [] (.tup []) (garrD D1),ee] []=.ok (.ret (.tup []) (garrD D1),[ee],MatchK [100000] [] [] {t:=[(0,.tup [])],h:=(garrD D1)} {t:=[(0,.tup [])],h:=(garrD D1)}::(decide (IntKind.i64.wrap ((n:Int) - (st:Int))<(b:Int))=false)::(d4 (decide ((mid:Int)<IntKind.i64.wrap ((n:Int) - (st:Int)))=true) (d4 (decide ((a:Int)<(st:Int))=false) (MZ W 108 [.gs 100000 0 D.length,iA (st:Int),iA (m:Int),iA (IntKind.i64.wrap ((n:Int) - (st:Int))),(gcmS KK)] (garrD D) (.ret (.tup []) (garrD D1))::cloHs (garrD D)::(decide ((m:Int)<IntKind.i64.wrap ((n:Int) - (st:Int)))=true)::(d4 (decide ((st:Int)<(m:Int))=true) [LZ W [100000] 96 4 (gSsy4 KK D a m b mid n i j p) (.exit 8) {t:=[(0,.gs 100000 0 D.length),(1,iA (a:Int)),(2,iA (m:Int)),(3,iA (b:Int)),(4,(gcmS KK)),(18,iA (mid:Int)),(19,iA (n:Int)),(20,iA (st:Int))],h:=garrD D},MatchK [100000] [] [] {t:=[(0,.gs 100000 0 D.length),(1,iA (a:Int)),(2,iA (m:Int)),(3,iA (b:Int)),(4,(gcmS KK)),(18,iA (IntKind.i64.wrap ((IntKind.u64.wrap (IntKind.i64.wrap ((a:Int)+(b:Int)))).fdiv 2))),(19,iA (IntKind.i64.wrap (IntKind.i64.wrap ((IntKind.u64.wrap (IntKind.i64.wrap ((a:Int)+(b:Int)))).fdiv 2)+(m:Int)))),(20,iA (a:Int)),(21,iA (m:Int)),(22,iA (IntKind.i64.wrap (IntKind.i64.wrap (IntKind.i64.wrap ((IntKind.u64.wrap (IntKind.i64.wrap ((a:Int)+(b:Int)))).fdiv 2)+(m:Int)) - 1)))],h:=(garrD D)} {t:=[(0,.gs 100000 0 D.length),(1,iA (a:Int)),(2,iA (m:Int)),(3,iA (b:Int)),(4,(gcmS KK)),(18,iA (mid:Int)),(19,iA (n:Int)),(20,iA (i:Int)),(21,iA (j:Int)),(22,iA (p:Int))],h:=(garrD D)},decide (IntKind.i64.wrap ((IntKind.u64.wrap (IntKind.i64.wrap ((a:Int)+(b:Int)))).fdiv 2)<(m:Int))=false,decide (IntKind.i64.wrap ((b:Int) - (m:Int))=1)=false,decide (IntKind.i64.wrap ((m:Int) - (a:Int))=1)=false]))))):=kr
theorem gstF_0 (W:World) (KK:KS) (D D1 D2 D3:List GDoc) (a n:Nat):sF W {lp:=true,ol:=true,fin:=9,tl:=[95]} 74 [.gs 100000 0 D.length,iA n,(gcmS KK)] (garrD D) 100001 [ee,.loopM [] [] (gSst0 KK D n 20 0 20) (.exit 0) {t:=[(0,.gs 100000 0 D1.length),(1,iA (n:Int)),(2,(gcmS KK)),(6,iA 20),(7,iA (a:Int))],h:=garrD D1},.lg,ee,cR (.tup []) (garrD D2),ee,.loopM [] [] (gSst1 KK D2 n 20) (.exit 2) (gEst D3),ee,.fin [] [] (.tup []) (garrD D3),ee] []=.ok (.ret (.tup []) (garrD D3),[ee],[MatchK [100000] [] [] {t:=[(0,.tup [])],h:=(garrD D3)} {t:=[(0,.tup [])],h:=(garrD D3)},LZ W [100000] 74 1 (gSst1 KK D2 n 20) (.exit 2) (gEst D3),MatchK [100000] [] [] {t:=[(0,.gs 100000 0 D1.length),(1,iA (n:Int)),(2,(gcmS KK)),(6,iA 20)],h:=(garrD D2)} {t:=[(0,.gs 100000 0 D2.length),(1,iA (n:Int)),(2,(gcmS KK)),(6,iA 20)],h:=(garrD D2)},MZ W 95 [.gs 100000 0 D1.length,iA (a:Int),iA (n:Int),(gcmS KK)] (garrD D1) (.ret (.tup []) (garrD D2)),cloHs (garrD D1),LZ W [100000] 74 0 (gSst0 KK D n 20 0 20) (.exit 0) {t:=[(0,.gs 100000 0 D1.length),(1,iA (n:Int)),(2,(gcmS KK)),(6,iA 20),(7,iA (a:Int))],h:=garrD D1},MatchK [100000] [] [] {t:=[(0,.gs 100000 0 D.length),(1,iA (n:Int)),(2,(gcmS KK)),(6,iA 20),(7,iA 0),(8,iA 20)],h:=(garrD D)} {t:=[(0,.gs 100000 0 D.length),(1,iA (n:Int)),(2,(gcmS KK)),(6,iA 20),(7,iA 0),(8,iA 20)],h:=(garrD D)}]):=kr
theorem gsfF_0 (W:World) (KK:KS) (D D2:List GDoc):sF W {lp:=true,ol:=true,fin:=9,tl:=[74]} 40 [.gs 100000 0 D.length,(gcmS KK)] (garrD D) 100001 [.lg,ee,cR (.tup []) (garrD D2),ee,.fin [] [] (.tup []) (garrD D2),ee] []=.ok (.ret (.tup []) (garrD D2),[ee],[MatchK [100000] [] [] {t:=[(0,.tup [])],h:=(garrD D2)} {t:=[(0,.tup [])],h:=(garrD D2)},MZ W 74 [.gs 100000 0 D.length,iA (D.length:Int),(gcmS KK)] (garrD D) (.ret (.tup []) (garrD D2)),cloHs (garrD D)]):=kr
theorem ginsI_0 (W:World) (KK:KS) (D:List GDoc) (a b i j:Nat) (z:Int) (x y:GDoc):sQ W {lp:=true,ol:=true,tl:=[13]} 95 1 [100000] [0,1,2,3,8,9] (gTins KK D a b i j) [bt,bt,bt,bt,.lg,bt,oS (docG x),bt,bt,bt,bt,.lg,bt,oS (docG y),bt,.lg,ee,cR (iA z) [],bt,bt,bt,.lg,oS (docG y),.lg,oS (docG x),.lg,oS (docG x),.lg,oS (docG y),ee]=.ok ((.normal,{t:=[(0,.gs 100000 0 D.length),(1,iA (a:Int)),(2,iA (b:Int)),(3,(gcmS KK)),(8,iA (i:Int)),(9,iA (IntKind.i64.wrap ((j:Int) - 1)))],h:=[(100000,.arr 40 7 (((docsG D).set (0+(j:Int).toNat) (docG y)).set (0+(IntKind.i64.wrap ((j:Int) - 1)).toNat) (docG x)) .own)]}),[ee],(((docsG D).set (0+(j:Int).toNat) (docG y))[0+(IntKind.i64.wrap ((j:Int) - 1)).toNat]?=some (docG y))::(0<=IntKind.i64.wrap ((j:Int) - 1)/\IntKind.i64.wrap ((j:Int) - 1)<(D.length:Int))::((docsG D)[0+(j:Int).toNat]?=some (docG x))::(0<=(j:Int)/\(j:Int)<(D.length:Int))::((docsG D)[0+(j:Int).toNat]?=some (docG x))::(0<=(j:Int)/\(j:Int)<(D.length:Int))::((docsG D)[0+(IntKind.i64.wrap ((j:Int) - 1)).toNat]?=some (docG y))::(0<=IntKind.i64.wrap ((j:Int) - 1)/\IntKind.i64.wrap ((j:Int) - 1)<(D.length:Int))::(decide (z<0)=true)::(d2 (decide ((a:Int)<(j:Int))=true) (MZ W 13 [sortA KK,docG x,docG y] [] (.ret (iA z) [])::cloHs []::(decide ((a:Int)<(j:Int))=true)::((docsG D)[0+(IntKind.i64.wrap ((j:Int) - 1)).toNat]?=some (docG y))::(decide ((a:Int)<(j:Int))=true)::(0<=IntKind.i64.wrap ((j:Int) - 1)/\IntKind.i64.wrap ((j:Int) - 1)<(D.length:Int))::(d4 (decide ((a:Int)<(j:Int))=true) (((docsG D)[0+(j:Int).toNat]?=some (docG x))::(decide ((a:Int)<(j:Int))=true)::(0<=(j:Int)/\(j:Int)<(D.length:Int))::(d4 (decide ((a:Int)<(j:Int))=true) [])))))):=by
 (show _=_;kernel_rfl)
theorem ginsI_1 (W:World) (KK:KS) (D:List GDoc) (a b i j:Nat) (z:Int) (x y:GDoc):sQ W {lp:=true,ol:=true,tl:=[13]} 95 1 [100000] [0,1,2,3,8,9] (gTins KK D a b i j) [bt,bt,bt,bt,.lg,bt,oS (docG x),bt,bt,bt,bt,.lg,bt,oS (docG y),bt,.lg,ee,cR (iA z) [],bt,bt,bf,ee]=.ok ((.exit 2,{t:=[(0,.gs 100000 0 D.length),(1,iA (a:Int)),(2,iA (b:Int)),(3,(gcmS KK)),(8,iA (i:Int)),(9,iA (j:Int))],h:=(garrD D)}),[ee],(decide (z<0)=false)::(d2 (decide ((a:Int)<(j:Int))=true) (MZ W 13 [sortA KK,docG x,docG y] [] (.ret (iA z) [])::cloHs []::(decide ((a:Int)<(j:Int))=true)::((docsG D)[0+(IntKind.i64.wrap ((j:Int) - 1)).toNat]?=some (docG y))::(decide ((a:Int)<(j:Int))=true)::(0<=IntKind.i64.wrap ((j:Int) - 1)/\IntKind.i64.wrap ((j:Int) - 1)<(D.length:Int))::(d4 (decide ((a:Int)<(j:Int))=true) (((docsG D)[0+(j:Int).toNat]?=some (docG x))::(decide ((a:Int)<(j:Int))=true)::(0<=(j:Int)/\(j:Int)<(D.length:Int))::(d4 (decide ((a:Int)<(j:Int))=true) [])))))):=by
 (show _=_;kernel_rfl)
theorem ginsI_2 (W:World) (KK:KS) (D:List GDoc) (a b i j:Nat):sQ W {lp:=true,ol:=true,tl:=[13]} 95 1 [100000] [0,1,2,3,8,9] (gTins KK D a b i j) [bf,bf,bf,bf,bf,bf,bf,bf,bf,bf,bf,bf,bf,ee]=.ok ((.exit 2,{t:=[(0,.gs 100000 0 D.length),(1,iA (a:Int)),(2,iA (b:Int)),(3,(gcmS KK)),(8,iA (i:Int)),(9,iA (j:Int))],h:=(garrD D)}),[aE 9999999],(decide ((a:Int)<(j:Int))=false)::(d6 (decide ((a:Int)<(j:Int))=false) (d6 (decide ((a:Int)<(j:Int))=false) []))):=kr
theorem ginsO_0 (W:World) (KK:KS) (D D2:List GDoc) (a b i:Nat):sQ W {lp:=true,ol:=true,tl:=[]} 95 0 [100000] [0,1,2,3,8] (gSins KK D a b i) [bt,ee,.loopM [] [] (gTins KK D a b i i) (.exit 2) (gSins KK D2 a b i),ee]=.ok ((.normal,{t:=[(0,.gs 100000 0 D2.length),(1,iA (a:Int)),(2,iA (b:Int)),(3,(gcmS KK)),(8,iA (IntKind.i64.wrap ((i:Int)+1)))],h:=(garrD D2)}),[ee],[LZ W [100000] 95 1 (gTins KK D a b i i) (.exit 2) (gSins KK D2 a b i),MatchK [100000] [] [] {t:=[(0,.gs 100000 0 D.length),(1,iA (a:Int)),(2,iA (b:Int)),(3,(gcmS KK)),(8,iA (i:Int)),(9,iA (i:Int))],h:=(garrD D)} (gTins KK D a b i i),decide ((i:Int)<(b:Int))=true]):=kr
theorem ginsO_1 (W:World) (KK:KS) (D:List GDoc) (a b i:Nat):sQ W {lp:=true,ol:=true,tl:=[]} 95 0 [100000] [0,1,2,3,8] (gSins KK D a b i) [bf,ee]=.ok ((.exit 0,{t:=[(0,.gs 100000 0 D.length),(1,iA (a:Int)),(2,iA (b:Int)),(3,(gcmS KK)),(8,iA (i:Int))],h:=(garrD D)}),[ee],[decide ((i:Int)<(b:Int))=false]):=kr
theorem gswpI_0 (W:World) (D:List GDoc) (a b n i:Nat) (x y:GDoc):sQ W {lp:=true,ol:=true,tl:=[]} 121 0 [100000] [0,1,2,3,10] (gSswp D a b n i) [bt,.lg,oS (docG y),.lg,oS (docG x),.lg,oS (docG x),.lg,oS (docG y),ee]=.ok ((.normal,{t:=[(0,.gs 100000 0 D.length),(1,iA (a:Int)),(2,iA (b:Int)),(3,iA (n:Int)),(10,iA (IntKind.i64.wrap ((i:Int)+1)))],h:=[(100000,.arr 40 7 (((docsG D).set (0+(IntKind.i64.wrap ((a:Int)+(i:Int))).toNat) (docG y)).set (0+(IntKind.i64.wrap ((b:Int)+(i:Int))).toNat) (docG x)) .own)]}),[ee],[((docsG D).set (0+(IntKind.i64.wrap ((a:Int)+(i:Int))).toNat) (docG y))[0+(IntKind.i64.wrap ((b:Int)+(i:Int))).toNat]?=some (docG y),0<=IntKind.i64.wrap ((b:Int)+(i:Int))/\IntKind.i64.wrap ((b:Int)+(i:Int))<(D.length:Int),(docsG D)[0+(IntKind.i64.wrap ((a:Int)+(i:Int))).toNat]?=some (docG x),0<=IntKind.i64.wrap ((a:Int)+(i:Int))/\IntKind.i64.wrap ((a:Int)+(i:Int))<(D.length:Int),(docsG D)[0+(IntKind.i64.wrap ((a:Int)+(i:Int))).toNat]?=some (docG x),0<=IntKind.i64.wrap ((a:Int)+(i:Int))/\IntKind.i64.wrap ((a:Int)+(i:Int))<(D.length:Int),(docsG D)[0+(IntKind.i64.wrap ((b:Int)+(i:Int))).toNat]?=some (docG y),0<=IntKind.i64.wrap ((b:Int)+(i:Int))/\IntKind.i64.wrap ((b:Int)+(i:Int))<(D.length:Int),decide ((i:Int)<(n:Int))=true]):=by
 (show _=_;kernel_rfl)
theorem gswpI_1 (W:World) (D:List GDoc) (a b n i:Nat):sQ W {lp:=true,ol:=true,tl:=[]} 121 0 [100000] [0,1,2,3,10] (gSswp D a b n i) [bf,ee]=.ok ((.exit 0,{t:=[(0,.gs 100000 0 D.length),(1,iA (a:Int)),(2,iA (b:Int)),(3,iA (n:Int)),(10,iA (i:Int))],h:=(garrD D)}),[ee],[decide ((i:Int)<(n:Int))=false]):=kr
theorem grotI_0 (W:World) (KK:KS) (D D2:List GDoc) (i j m:Nat):sQ W {lp:=true,ol:=true,tl:=[121]} 108 0 [100000] [0,2,4,10,11] (gSrot KK D m i j) [bt,bt,.lg,ee,cR (.tup []) (garrD D2),ee]=.ok ((.normal,{t:=[(0,.gs 100000 0 D.length),(2,iA (m:Int)),(4,(gcmS KK)),(10,iA (IntKind.i64.wrap ((i:Int) - (j:Int)))),(11,iA (j:Int))],h:=(garrD D2)}),[ee],[MZ W 121 [.gs 100000 0 D.length,iA (IntKind.i64.wrap ((m:Int) - (i:Int))),iA (m:Int),iA (j:Int),(gcmS KK)] (garrD D) (.ret (.tup []) (garrD D2)),cloHs (garrD D),decide ((j:Int)<(i:Int))=true,(!decide ((i:Int)=(j:Int)))=true]):=kr
theorem grotI_1 (W:World) (KK:KS) (D D2:List GDoc) (i j m:Nat):sQ W {lp:=true,ol:=true,tl:=[121]} 108 0 [100000] [0,2,4,10,11] (gSrot KK D m i j) [bt,bf,.lg,ee,cR (.tup []) (garrD D2),ee]=.ok ((.normal,{t:=[(0,.gs 100000 0 D.length),(2,iA (m:Int)),(4,(gcmS KK)),(10,iA (i:Int)),(11,iA (IntKind.i64.wrap ((j:Int) - (i:Int))))],h:=(garrD D2)}),[ee],[MZ W 121 [.gs 100000 0 D.length,iA (IntKind.i64.wrap ((m:Int) - (i:Int))),iA (IntKind.i64.wrap (IntKind.i64.wrap ((m:Int)+(j:Int)) - (i:Int))),iA (i:Int),(gcmS KK)] (garrD D) (.ret (.tup []) (garrD D2)),cloHs (garrD D),decide ((j:Int)<(i:Int))=false,(!decide ((i:Int)=(j:Int)))=true]):=kr
theorem grotI_2 (W:World) (KK:KS) (D:List GDoc) (i j m:Nat):sQ W {lp:=true,ol:=true,tl:=[121]} 108 0 [100000] [0,2,4,10,11] (gSrot KK D m i j) [bf,ee]=.ok ((.exit 0,{t:=[(0,.gs 100000 0 D.length),(2,iA (m:Int)),(4,(gcmS KK)),(10,iA (i:Int)),(11,iA (j:Int))],h:=(garrD D)}),[ee],[(!decide ((i:Int)=(j:Int)))=false]):=kr
theorem gsy0_0 (W:World) (KK:KS) (D:List GDoc) (a i j:Nat) (z:Int) (x y:GDoc):sQ W {lp:=true,ol:=true,tl:=[13]} 96 0 [100000] [0,1,4,10,11] (gSsy0 KK D a i j) [bt,aE 1,.lg,oS (docG x),.lg,oS (docG y),.lg,ee,cR (iA z) [],bt,ee]=.ok ((.normal,{t:=[(0,.gs 100000 0 D.length),(1,iA (a:Int)),(4,(gcmS KK)),(10,iA (IntKind.i64.wrap (IntKind.i64.wrap ((IntKind.u64.wrap (IntKind.i64.wrap ((i:Int)+(j:Int)))).fdiv 2)+1))),(11,iA (j:Int))],h:=(garrD D)}),[ee],[decide (z<0)=true,MZ W 13 [sortA KK,docG x,docG y] [] (.ret (iA z) []),cloHs [],(docsG D)[0+(a:Int).toNat]?=some (docG y),0<=(a:Int)/\(a:Int)<(D.length:Int),(docsG D)[0+(IntKind.i64.wrap ((IntKind.u64.wrap (IntKind.i64.wrap ((i:Int)+(j:Int)))).fdiv 2)).toNat]?=some (docG x),0<=IntKind.i64.wrap ((IntKind.u64.wrap (IntKind.i64.wrap ((i:Int)+(j:Int)))).fdiv 2)/\IntKind.i64.wrap ((IntKind.u64.wrap (IntKind.i64.wrap ((i:Int)+(j:Int)))).fdiv 2)<(D.length:Int),decide ((i:Int)<(j:Int))=true]):=by
 (show _=_;kernel_rfl)
theorem gsy0_1 (W:World) (KK:KS) (D:List GDoc) (a i j:Nat) (z:Int) (x y:GDoc):sQ W {lp:=true,ol:=true,tl:=[13]} 96 0 [100000] [0,1,4,10,11] (gSsy0 KK D a i j) [bt,aE 1,.lg,oS (docG x),.lg,oS (docG y),.lg,ee,cR (iA z) [],bf,ee]=.ok ((.normal,{t:=[(0,.gs 100000 0 D.length),(1,iA (a:Int)),(4,(gcmS KK)),(10,iA (i:Int)),(11,iA (IntKind.i64.wrap ((IntKind.u64.wrap (IntKind.i64.wrap ((i:Int)+(j:Int)))).fdiv 2)))],h:=(garrD D)}),[ee],[decide (z<0)=false,MZ W 13 [sortA KK,docG x,docG y] [] (.ret (iA z) []),cloHs [],(docsG D)[0+(a:Int).toNat]?=some (docG y),0<=(a:Int)/\(a:Int)<(D.length:Int),(docsG D)[0+(IntKind.i64.wrap ((IntKind.u64.wrap (IntKind.i64.wrap ((i:Int)+(j:Int)))).fdiv 2)).toNat]?=some (docG x),0<=IntKind.i64.wrap ((IntKind.u64.wrap (IntKind.i64.wrap ((i:Int)+(j:Int)))).fdiv 2)/\IntKind.i64.wrap ((IntKind.u64.wrap (IntKind.i64.wrap ((i:Int)+(j:Int)))).fdiv 2)<(D.length:Int),decide ((i:Int)<(j:Int))=true]):=by
 (show _=_;kernel_rfl)
theorem gsy0_2 (W:World) (KK:KS) (D:List GDoc) (a i j:Nat):sQ W {lp:=true,ol:=true,tl:=[13]} 96 0 [100000] [0,1,4,10,11] (gSsy0 KK D a i j) [bf,ee]=.ok ((.exit 0,{t:=[(0,.gs 100000 0 D.length),(1,iA (a:Int)),(4,(gcmS KK)),(10,iA (i:Int)),(11,iA (j:Int))],h:=(garrD D)}),[ee],[decide ((i:Int)<(j:Int))=false]):=kr
theorem gsy1_0 (W:World) (D:List GDoc) (k:Nat) (z:Int) (x y:GDoc):sQ W {lp:=true,ol:=true,tl:=[]} 96 1 [100000] [0,10,13] (gSsy1 D z k) [bt,.lg,oS (docG y),.lg,oS (docG x),.lg,oS (docG x),.lg,oS (docG y),ee]=.ok ((.normal,{t:=[(0,.gs 100000 0 D.length),(10,iA z),(13,iA (IntKind.i64.wrap ((k:Int)+1)))],h:=[(100000,.arr 40 7 (((docsG D).set (0+(k:Int).toNat) (docG y)).set (0+(IntKind.i64.wrap ((k:Int)+1)).toNat) (docG x)) .own)]}),[ee],[((docsG D).set (0+(k:Int).toNat) (docG y))[0+(IntKind.i64.wrap ((k:Int)+1)).toNat]?=some (docG y),0<=IntKind.i64.wrap ((k:Int)+1)/\IntKind.i64.wrap ((k:Int)+1)<(D.length:Int),(docsG D)[0+(k:Int).toNat]?=some (docG x),0<=(k:Int)/\(k:Int)<(D.length:Int),(docsG D)[0+(k:Int).toNat]?=some (docG x),0<=(k:Int)/\(k:Int)<(D.length:Int),(docsG D)[0+(IntKind.i64.wrap ((k:Int)+1)).toNat]?=some (docG y),0<=IntKind.i64.wrap ((k:Int)+1)/\IntKind.i64.wrap ((k:Int)+1)<(D.length:Int),decide ((k:Int)<IntKind.i64.wrap (z - 1))=true]):=by
 (show _=_;kernel_rfl)
theorem gsy1_1 (W:World) (D:List GDoc) (k:Nat) (z:Int):sQ W {lp:=true,ol:=true,tl:=[]} 96 1 [100000] [0,10,13] (gSsy1 D z k) [bf,ee]=.ok ((.exit 2,{t:=[(0,.gs 100000 0 D.length),(10,iA z),(13,iA (k:Int))],h:=(garrD D)}),[ee],[decide ((k:Int)<IntKind.i64.wrap (z - 1))=false]):=kr
theorem gsy2_0 (W:World) (KK:KS) (D:List GDoc) (i j m:Nat) (z:Int) (x y:GDoc):sQ W {lp:=true,ol:=true,tl:=[13]} 96 2 [100000] [0,2,4,14,15] (gSsy2 KK D m i j) [bt,aE 1,.lg,oS (docG x),.lg,oS (docG y),.lg,ee,cR (iA z) [],bt,ee]=.ok ((.normal,{t:=[(0,.gs 100000 0 D.length),(2,iA (m:Int)),(4,(gcmS KK)),(14,iA (IntKind.i64.wrap (IntKind.i64.wrap ((IntKind.u64.wrap (IntKind.i64.wrap ((i:Int)+(j:Int)))).fdiv 2)+1))),(15,iA (j:Int))],h:=(garrD D)}),[ee],[(!decide (z<0))=true,MZ W 13 [sortA KK,docG x,docG y] [] (.ret (iA z) []),cloHs [],(docsG D)[0+(IntKind.i64.wrap ((IntKind.u64.wrap (IntKind.i64.wrap ((i:Int)+(j:Int)))).fdiv 2)).toNat]?=some (docG y),0<=IntKind.i64.wrap ((IntKind.u64.wrap (IntKind.i64.wrap ((i:Int)+(j:Int)))).fdiv 2)/\IntKind.i64.wrap ((IntKind.u64.wrap (IntKind.i64.wrap ((i:Int)+(j:Int)))).fdiv 2)<(D.length:Int),(docsG D)[0+(m:Int).toNat]?=some (docG x),0<=(m:Int)/\(m:Int)<(D.length:Int),decide ((i:Int)<(j:Int))=true]):=by
 (show _=_;kernel_rfl)
theorem gsy2_1 (W:World) (KK:KS) (D:List GDoc) (i j m:Nat) (z:Int) (x y:GDoc):sQ W {lp:=true,ol:=true,tl:=[13]} 96 2 [100000] [0,2,4,14,15] (gSsy2 KK D m i j) [bt,aE 1,.lg,oS (docG x),.lg,oS (docG y),.lg,ee,cR (iA z) [],bf,ee]=.ok ((.normal,{t:=[(0,.gs 100000 0 D.length),(2,iA (m:Int)),(4,(gcmS KK)),(14,iA (i:Int)),(15,iA (IntKind.i64.wrap ((IntKind.u64.wrap (IntKind.i64.wrap ((i:Int)+(j:Int)))).fdiv 2)))],h:=(garrD D)}),[ee],[(!decide (z<0))=false,MZ W 13 [sortA KK,docG x,docG y] [] (.ret (iA z) []),cloHs [],(docsG D)[0+(IntKind.i64.wrap ((IntKind.u64.wrap (IntKind.i64.wrap ((i:Int)+(j:Int)))).fdiv 2)).toNat]?=some (docG y),0<=IntKind.i64.wrap ((IntKind.u64.wrap (IntKind.i64.wrap ((i:Int)+(j:Int)))).fdiv 2)/\IntKind.i64.wrap ((IntKind.u64.wrap (IntKind.i64.wrap ((i:Int)+(j:Int)))).fdiv 2)<(D.length:Int),(docsG D)[0+(m:Int).toNat]?=some (docG x),0<=(m:Int)/\(m:Int)<(D.length:Int),decide ((i:Int)<(j:Int))=true]):=by
 (show _=_;kernel_rfl)
theorem gsy2_2 (W:World) (KK:KS) (D:List GDoc) (i j m:Nat):sQ W {lp:=true,ol:=true,tl:=[13]} 96 2 [100000] [0,2,4,14,15] (gSsy2 KK D m i j) [bf,ee]=.ok ((.exit 4,{t:=[(0,.gs 100000 0 D.length),(2,iA (m:Int)),(4,(gcmS KK)),(14,iA (i:Int)),(15,iA (j:Int))],h:=(garrD D)}),[ee],[decide ((i:Int)<(j:Int))=false]):=kr
theorem gsy3_0 (W:World) (D:List GDoc) (i k:Nat) (x y:GDoc):sQ W {lp:=true,ol:=true,tl:=[]} 96 3 [100000] [0,14,17] (gSsy3 D i k) [bt,.lg,oS (docG y),.lg,oS (docG x),.lg,oS (docG x),.lg,oS (docG y),ee]=.ok ((.normal,{t:=[(0,.gs 100000 0 D.length),(14,iA (i:Int)),(17,iA (IntKind.i64.wrap ((k:Int) - 1)))],h:=[(100000,.arr 40 7 (((docsG D).set (0+(k:Int).toNat) (docG y)).set (0+(IntKind.i64.wrap ((k:Int) - 1)).toNat) (docG x)) .own)]}),[ee],[((docsG D).set (0+(k:Int).toNat) (docG y))[0+(IntKind.i64.wrap ((k:Int) - 1)).toNat]?=some (docG y),0<=IntKind.i64.wrap ((k:Int) - 1)/\IntKind.i64.wrap ((k:Int) - 1)<(D.length:Int),(docsG D)[0+(k:Int).toNat]?=some (docG x),0<=(k:Int)/\(k:Int)<(D.length:Int),(docsG D)[0+(k:Int).toNat]?=some (docG x),0<=(k:Int)/\(k:Int)<(D.length:Int),(docsG D)[0+(IntKind.i64.wrap ((k:Int) - 1)).toNat]?=some (docG y),0<=IntKind.i64.wrap ((k:Int) - 1)/\IntKind.i64.wrap ((k:Int) - 1)<(D.length:Int),decide ((i:Int)<(k:Int))=true]):=by
 (show _=_;kernel_rfl)
theorem gsy3_1 (W:World) (D:List GDoc) (i k:Nat):sQ W {lp:=true,ol:=true,tl:=[]} 96 3 [100000] [0,14,17] (gSsy3 D i k) [bf,ee]=.ok ((.exit 6,{t:=[(0,.gs 100000 0 D.length),(14,iA (i:Int)),(17,iA (k:Int))],h:=(garrD D)}),[ee],[decide ((i:Int)<(k:Int))=false]):=kr
theorem gsy4_0 (W:World) (KK:KS) (D:List GDoc) (a b n i j m p mid:Nat) (z:Int) (x y:GDoc):sQ W {lp:=true,ol:=true,tl:=[13]} 96 4 [100000] [0,1,2,3,4,18,19,20,21,22] (gSsy4 KK D a m b mid n i j p) [bt,aE 1,.lg,oS (docG x),.lg,oS (docG y),.lg,ee,cR (iA z) [],bt,ee]=.ok ((.normal,{t:=[(0,.gs 100000 0 D.length),(1,iA (a:Int)),(2,iA (m:Int)),(3,iA (b:Int)),(4,(gcmS KK)),(18,iA (mid:Int)),(19,iA (n:Int)),(20,iA (IntKind.i64.wrap (IntKind.i64.wrap ((IntKind.u64.wrap (IntKind.i64.wrap ((i:Int)+(j:Int)))).fdiv 2)+1))),(21,iA (j:Int)),(22,iA (p:Int))],h:=(garrD D)}),[ee],[(!decide (z<0))=true,MZ W 13 [sortA KK,docG x,docG y] [] (.ret (iA z) []),cloHs [],(docsG D)[0+(IntKind.i64.wrap ((IntKind.u64.wrap (IntKind.i64.wrap ((i:Int)+(j:Int)))).fdiv 2)).toNat]?=some (docG y),0<=IntKind.i64.wrap ((IntKind.u64.wrap (IntKind.i64.wrap ((i:Int)+(j:Int)))).fdiv 2)/\IntKind.i64.wrap ((IntKind.u64.wrap (IntKind.i64.wrap ((i:Int)+(j:Int)))).fdiv 2)<(D.length:Int),(docsG D)[0+(IntKind.i64.wrap ((p:Int) - IntKind.i64.wrap ((IntKind.u64.wrap (IntKind.i64.wrap ((i:Int)+(j:Int)))).fdiv 2))).toNat]?=some (docG x),0<=IntKind.i64.wrap ((p:Int) - IntKind.i64.wrap ((IntKind.u64.wrap (IntKind.i64.wrap ((i:Int)+(j:Int)))).fdiv 2))/\IntKind.i64.wrap ((p:Int) - IntKind.i64.wrap ((IntKind.u64.wrap (IntKind.i64.wrap ((i:Int)+(j:Int)))).fdiv 2))<(D.length:Int),decide ((i:Int)<(j:Int))=true]):=by
 (show _=_;kernel_rfl)
theorem gsy4_1 (W:World) (KK:KS) (D:List GDoc) (a b n i j m p mid:Nat) (z:Int) (x y:GDoc):sQ W {lp:=true,ol:=true,tl:=[13]} 96 4 [100000] [0,1,2,3,4,18,19,20,21,22] (gSsy4 KK D a m b mid n i j p) [bt,aE 1,.lg,oS (docG x),.lg,oS (docG y),.lg,ee,cR (iA z) [],bf,ee]=.ok ((.normal,{t:=[(0,.gs 100000 0 D.length),(1,iA (a:Int)),(2,iA (m:Int)),(3,iA (b:Int)),(4,(gcmS KK)),(18,iA (mid:Int)),(19,iA (n:Int)),(20,iA (i:Int)),(21,iA (IntKind.i64.wrap ((IntKind.u64.wrap (IntKind.i64.wrap ((i:Int)+(j:Int)))).fdiv 2))),(22,iA (p:Int))],h:=(garrD D)}),[ee],[(!decide (z<0))=false,MZ W 13 [sortA KK,docG x,docG y] [] (.ret (iA z) []),cloHs [],(docsG D)[0+(IntKind.i64.wrap ((IntKind.u64.wrap (IntKind.i64.wrap ((i:Int)+(j:Int)))).fdiv 2)).toNat]?=some (docG y),0<=IntKind.i64.wrap ((IntKind.u64.wrap (IntKind.i64.wrap ((i:Int)+(j:Int)))).fdiv 2)/\IntKind.i64.wrap ((IntKind.u64.wrap (IntKind.i64.wrap ((i:Int)+(j:Int)))).fdiv 2)<(D.length:Int),(docsG D)[0+(IntKind.i64.wrap ((p:Int) - IntKind.i64.wrap ((IntKind.u64.wrap (IntKind.i64.wrap ((i:Int)+(j:Int)))).fdiv 2))).toNat]?=some (docG x),0<=IntKind.i64.wrap ((p:Int) - IntKind.i64.wrap ((IntKind.u64.wrap (IntKind.i64.wrap ((i:Int)+(j:Int)))).fdiv 2))/\IntKind.i64.wrap ((p:Int) - IntKind.i64.wrap ((IntKind.u64.wrap (IntKind.i64.wrap ((i:Int)+(j:Int)))).fdiv 2))<(D.length:Int),decide ((i:Int)<(j:Int))=true]):=by
 (show _=_;kernel_rfl)
theorem gsy4_2 (W:World) (KK:KS) (D:List GDoc) (a b n i j m p mid:Nat):sQ W {lp:=true,ol:=true,tl:=[13]} 96 4 [100000] [0,1,2,3,4,18,19,20,21,22] (gSsy4 KK D a m b mid n i j p) [bf,ee]=.ok ((.exit 8,{t:=[(0,.gs 100000 0 D.length),(1,iA (a:Int)),(2,iA (m:Int)),(3,iA (b:Int)),(4,(gcmS KK)),(18,iA (mid:Int)),(19,iA (n:Int)),(20,iA (i:Int)),(21,iA (j:Int)),(22,iA (p:Int))],h:=(garrD D)}),[ee],[decide ((i:Int)<(j:Int))=false]):=kr
theorem gst0_0 (W:World) (KK:KS) (D D2:List GDoc) (a b n bs:Nat):sQ W {lp:=true,ol:=true,tl:=[95]} 74 0 [100000] [0,1,2,6,7,8] (gSst0 KK D n bs a b) [bt,.lg,ee,cR (.tup []) (garrD D2),ee]=.ok ((.normal,{t:=[(0,.gs 100000 0 D.length),(1,iA (n:Int)),(2,(gcmS KK)),(6,iA (bs:Int)),(7,iA (b:Int)),(8,iA (IntKind.i64.wrap ((b:Int)+(bs:Int))))],h:=(garrD D2)}),[ee],[MZ W 95 [.gs 100000 0 D.length,iA (a:Int),iA (b:Int),(gcmS KK)] (garrD D) (.ret (.tup []) (garrD D2)),cloHs (garrD D),decide ((b:Int)<=(n:Int))=true]):=kr
theorem gst0_1 (W:World) (KK:KS) (D:List GDoc) (a b n bs:Nat):sQ W {lp:=true,ol:=true,tl:=[95]} 74 0 [100000] [0,1,2,6,7,8] (gSst0 KK D n bs a b) [bf,ee]=.ok ((.exit 0,{t:=[(0,.gs 100000 0 D.length),(1,iA (n:Int)),(2,(gcmS KK)),(6,iA (bs:Int)),(7,iA (a:Int)),(8,iA (b:Int))],h:=(garrD D)}),[ee],[decide ((b:Int)<=(n:Int))=false]):=kr
theorem gst1_0 (W:World) (KK:KS) (D D2:List GDoc) (a b n bs:Nat):sQ W {lp:=true,ol:=true,tl:=[96]} 74 2 [100000] [0,1,2,6,7,8] (gSst0 KK D n bs a b) [bt,.lg,ee,cR (.tup []) (garrD D2),ee]=.ok ((.normal,{t:=[(0,.gs 100000 0 D.length),(1,iA (n:Int)),(2,(gcmS KK)),(6,iA (bs:Int)),(7,iA (b:Int)),(8,iA (IntKind.i64.wrap ((b:Int)+IntKind.i64.wrap (2 * (bs:Int)))))],h:=(garrD D2)}),[ee],[MZ W 96 [.gs 100000 0 D.length,iA (a:Int),iA (IntKind.i64.wrap ((a:Int)+(bs:Int))),iA (b:Int),(gcmS KK)] (garrD D) (.ret (.tup []) (garrD D2)),cloHs (garrD D),decide ((b:Int)<=(n:Int))=true]):=kr
theorem gst1_1 (W:World) (KK:KS) (D:List GDoc) (a b n bs:Nat):sQ W {lp:=true,ol:=true,tl:=[96]} 74 2 [100000] [0,1,2,6,7,8] (gSst0 KK D n bs a b) [bf,ee]=.ok ((.exit 4,{t:=[(0,.gs 100000 0 D.length),(1,iA (n:Int)),(2,(gcmS KK)),(6,iA (bs:Int)),(7,iA (a:Int)),(8,iA (b:Int))],h:=(garrD D)}),[ee],[decide ((b:Int)<=(n:Int))=false]):=kr
theorem gst2_0 (W:World) (KK:KS) (D D1 D2:List GDoc) (a b n bs:Nat):sQ W {lp:=true,ol:=true,tl:=[96]} 74 1 [100000] [0,1,2,6] (gSst1 KK D n bs) [bt,ee,.loopM [] [] (gSst0 KK D n bs 0 b) (.exit 4) {t:=[(0,.gs 100000 0 D1.length),(1,iA (n:Int)),(2,(gcmS KK)),(6,iA (bs:Int)),(7,iA (a:Int))],h:=garrD D1},bt,.lg,ee,cR (.tup []) (garrD D2),ee]=.ok ((.normal,{t:=[(0,.gs 100000 0 D1.length),(1,iA (n:Int)),(2,(gcmS KK)),(6,iA (IntKind.i64.wrap ((bs:Int) * 2)))],h:=(garrD D2)}),[ee],[MZ W 96 [.gs 100000 0 D1.length,iA (a:Int),iA (IntKind.i64.wrap ((a:Int)+(bs:Int))),iA (n:Int),(gcmS KK)] (garrD D1) (.ret (.tup []) (garrD D2)),cloHs (garrD D1),decide (IntKind.i64.wrap ((a:Int)+(bs:Int))<(n:Int))=true,LZ W [100000] 74 2 (gSst0 KK D n bs 0 b) (.exit 4) {t:=[(0,.gs 100000 0 D1.length),(1,iA (n:Int)),(2,(gcmS KK)),(6,iA (bs:Int)),(7,iA (a:Int))],h:=garrD D1},MatchK [100000] [] [] {t:=[(0,.gs 100000 0 D.length),(1,iA (n:Int)),(2,(gcmS KK)),(6,iA (bs:Int)),(7,iA 0),(8,iA (IntKind.i64.wrap (2 * (bs:Int))))],h:=(garrD D)} (gSst0 KK D n bs 0 b),decide ((bs:Int)<(n:Int))=true]):=kr
theorem gst2_1 (W:World) (KK:KS) (D D1:List GDoc) (a b n bs:Nat):sQ W {lp:=true,ol:=true,tl:=[96]} 74 1 [100000] [0,1,2,6] (gSst1 KK D n bs) [bt,ee,.loopM [] [] (gSst0 KK D n bs 0 b) (.exit 4) {t:=[(0,.gs 100000 0 D1.length),(1,iA (n:Int)),(2,(gcmS KK)),(6,iA (bs:Int)),(7,iA (a:Int))],h:=garrD D1},bf,ee]=.ok ((.normal,{t:=[(0,.gs 100000 0 D1.length),(1,iA (n:Int)),(2,(gcmS KK)),(6,iA (IntKind.i64.wrap ((bs:Int) * 2)))],h:=(garrD D1)}),[ee],[decide (IntKind.i64.wrap ((a:Int)+(bs:Int))<(n:Int))=false,LZ W [100000] 74 2 (gSst0 KK D n bs 0 b) (.exit 4) {t:=[(0,.gs 100000 0 D1.length),(1,iA (n:Int)),(2,(gcmS KK)),(6,iA (bs:Int)),(7,iA (a:Int))],h:=garrD D1},MatchK [100000] [] [] {t:=[(0,.gs 100000 0 D.length),(1,iA (n:Int)),(2,(gcmS KK)),(6,iA (bs:Int)),(7,iA 0),(8,iA (IntKind.i64.wrap (2 * (bs:Int))))],h:=(garrD D)} (gSst0 KK D n bs 0 b),decide ((bs:Int)<(n:Int))=true]):=kr
theorem gst2_2 (W:World) (KK:KS) (D:List GDoc) (n bs:Nat):sQ W {lp:=true,ol:=true,tl:=[96]} 74 1 [100000] [0,1,2,6] (gSst1 KK D n bs) [bf,ee]=.ok ((.exit 2,{t:=[(0,.gs 100000 0 D.length),(1,iA (n:Int)),(2,(gcmS KK)),(6,iA (bs:Int))],h:=(garrD D)}),[ee],[decide ((bs:Int)<(n:Int))=false]):=kr
theorem gdocs_clo:∀ D:List GDoc,cloL (docsG D)=true
 | []=>rfl
 | ⟨i,v,h,l,_⟩::D=>by
  have:=gdocs_clo D
  unfold docsG at this ⊢
  rw [List.map_cons,cloL,this]
  simp [docG,AV.clo,cloL,iA,cloL_str,encVs_clo]
theorem gzhS {p:Prop} (h:p:=by and_intros<;>first|exact trivial|exact gOK_eq rfl rfl rfl|exact gOK_arr rfl rfl rfl (gdocs_clo _)|exact gOK_arr rfl rfl hset (gdocs_clo _)):p:=h
theorem gzvS {p:Prop} (h:p:=by and_intros<;>first|rfl|exact trivial|exact allN_clo (gcmS_clo _)|exact allN_clo zb|exact allN_cloL (gdocs_clo _)):p:=h
theorem gSo_z1 {kp f ph σ σ'} (h:MatchK kp f ph σ σ':=by exact ⟨by rfl,(by simp only [garrD,gSins,gTins,gSswp,gSrot,gSsy0,gSsy1,gSsy2,gSsy3,gSsy4,gSst0,gSst1,gEst,tOK,List.map_cons,List.map_nil,and_true]<;>exact ztS),(by simp only [garrD,gSins,gTins,gSswp,gSrot,gSsy0,gSsy1,gSsy2,gSsy3,gSsy4,gSst0,gSst1,gEst,hOK,List.map_cons,List.map_nil,and_true]<;>exact gzhS),(by simp only [garrD,gSins,gTins,gSswp,gSrot,gSsy0,gSsy1,gSsy2,gSsy3,gSsy4,gSst0,gSst1,gEst,liveT,List.map_cons,List.map_nil,and_true]<;>exact gzvS),(by simp only [garrD,gSins,gTins,gSswp,gSrot,gSsy0,gSsy1,gSsy2,gSsy3,gSsy4,gSst0,gSst1,gEst,liveH,List.map_cons,List.map_nil,and_true]<;>exact gzvS)⟩):MatchK kp f ph σ σ':=h
theorem gSo_z2 {cs} (h:Holds cs:=by simp only [Holds,cloHs,garrD,and_true]<;>and_intros<;>first|assumption|exact gdocs_clo _|exact decide_eq_true (by omega)|exact decide_eq_false (by omega)|omega|exact trivial|(constructor<;>omega)|exact gSo_z1):Holds cs:=h
theorem gdocs_len (D:List GDoc):(docsG D).length=D.length:=by unfold docsG;rw [List.length_map]
theorem gdocs_at {D:List GDoc} {i:Nat} {x:GDoc} (h:D[i]?=some x):(docsG D)[0+((i:Nat):Int).toNat]?=some (docG x):=by
 rw [Int.toNat_natCast,Nat.zero_add];unfold docsG;rw [List.getElem?_map,h];rfl
theorem gdocs_set (D:List GDoc) (i:Nat) (x:GDoc):(docsG D).set (0+((i:Nat):Int).toNat) (docG x)=docsG (D.set i x):=by
 rw [Int.toNat_natCast,Nat.zero_add];unfold docsG;rw [List.map_set]
theorem gdocs_swap {D:List GDoc} {i j:Nat} {x y:GDoc} (hx:D[i]?=some x) (hy:D[j]?=some y):((docsG D).set (0+((i:Nat):Int).toNat) (docG y)).set (0+((j:Nat):Int).toNat) (docG x)=docsG (swapL D i j):=by
 rw [gdocs_set,gdocs_set];unfold swapL;rw [hx,hy]
theorem gdocs_at2 {D:List GDoc} {i j:Nat} {x y:GDoc} (hx:D[i]?=some x) (hy:D[j]?=some y):((docsG D).set (0+((i:Nat):Int).toNat) (docG y))[0+((j:Nat):Int).toNat]?=some (docG y):=by
 rw [gdocs_set]
 refine gdocs_at ?_
 rw [List.getElem?_set]
 split
 ·rename_i e;subst e;rw [if_pos (List.getElem?_eq_some_iff.1 hx).1]
 ·exact hy
section
variable (W:World) (KK:KS) {lt:GDoc->GDoc->Bool}
def gCmpC (W:World) (KK:KS) (lt:GDoc->GDoc->Bool):Prop:=∀ x y:GDoc,∃ n:Int,MutC Tryz.prog W 13 [sortA KK,docG x,docG y] [] (.ret (iA n) [])/\decide (n<0)=lt x y
theorem gswpG_len (a b:Nat):∀ (k i:Nat) (D:List GDoc),(swpG a b k i D).length=D.length
 | 0,_,_=>rfl
 | k+1,i,D=>by rw [swpG,gswpG_len a b k,swapL_len]
theorem gloopSwp (a b n:Nat):∀ (k i:Nat) (D:List GDoc),n - i=k->i<=n->a+n<=D.length->b+n<=D.length->D.length<=2 ^ 40->LoopC Tryz.prog W [100000] (nslots Tryz.prog 121) (loopOf Tryz.prog 121 0) (gSswp D a b n i) (.exit 0) (gEst (swpG a b k i D)):=by
 intro k
 induction k with
 | zero =>
  intro i D hk hi h1 h2 h3
  exact loop_last (by simp) (body_of_sbodyK mixedz (gswpI_1 W D a b n i) gSo_z2 [] [] gSo_z1)
 | succ k ih =>
  intro i D hk hi h1 h2 h3
  obtain ⟨x,hx⟩:=getOf (l:=D) (i:=a+i) (by omega)
  obtain ⟨y,hy⟩:=getOf (l:=D) (i:=b+i) (by omega)
  have w1:IntKind.i64.wrap ((a:Int)+(i:Int))=((a+i:Nat):Int):=wrapS (by omega) (by omega) (by omega)
  have w2:IntKind.i64.wrap ((b:Int)+(i:Int))=((b+i:Nat):Int):=wrapS (by omega) (by omega) (by omega)
  have hws:IntKind.i64.wrap ((i:Int)+1)=((i+1:Nat):Int):=wrap_succ (by omega)
  have g1:=gdocs_at hx
  have g2:=gdocs_at hy
  have g3:=gdocs_at2 hx hy
  have hset:=gdocs_swap hx hy
  have hl:=swapL_len D (a+i) (b+i)
  have hgl:=hl.symm
  have hb:=gswpI_0 W D a b n i x y
  rw [w1,w2] at hb
  have nx:=ih (i+1) (swapL D (a+i) (b+i)) (by omega) (by omega) (by omega) (by omega) (by omega)
  exact loop_next (body_of_sbodyK mixedz hb (by clear hb nx;exact gSo_z2) [] [] (σ3:=gSswp (swapL D (a+i) (b+i)) a b n (i+1)) (by clear hb nx;exact gSo_z1)) nx
theorem gswpM (D:List GDoc) (a b n N:Nat) (hN:N=D.length) (h1:a+n<=D.length) (h2:b+n<=D.length) (h3:D.length<=2 ^ 40):MutC Tryz.prog W 121 [.gs 100000 0 N,iA a,iA b,iA n,(gcmS KK)] (garrD D) (.ret (.tup []) (garrD (swpG a b n 0 D))):=by
 subst hN
 have hl:=gloopSwp W a b n n 0 D (by omega) (by omega) h1 h2 h3
 generalize swpG a b n 0 D=D2 at hl ⊢
 exact mut_of_sfun mixedz callSWP rfl (gswpF_0 W KK D D2 a b n) gSo_z2
theorem grotG_len (m:Nat):∀ (f i j:Nat) (D:List GDoc),(rotG m f i j D).length=D.length
 | 0,_,_,_=>rfl
 | f+1,i,j,D=>by
  rw [rotG]
  split
  ·exact gswpG_len _ _ _ _ _
  ·split
   ·rw [grotG_len m f,gswpG_len]
   ·rw [grotG_len m f,gswpG_len]
theorem gloopRot (m:Nat):∀ (f i j:Nat) (D:List GDoc),0<i->0<j->i+j<=f+1->0<f->i<=m->m+j<=D.length->D.length<=2 ^ 40->∃ (D1:List GDoc) (k:Nat),LoopC Tryz.prog W [100000] (nslots Tryz.prog 108) (loopOf Tryz.prog 108 0) (gSrot KK D m i j) (.exit 0) ⟨[(0,.gs 100000 0 D1.length),(2,iA m),(4,(gcmS KK)),(10,iA k)],garrD D1⟩/\swpG (m - k) m k 0 D1=rotG m f i j D/\k<=m/\m+k<=D1.length/\D1.length=D.length:=by
 intro f
 induction f with
 | zero=>intro i j D _ _ _ h;omega
 | succ f ih =>
  intro i j D hi hj hf _ him hjm hD
  rw [rotG]
  by_cases e:i=j
  ·have c1:(!decide ((i:Int)=(j:Int)))=false:=by rw [decide_eq_true (by omega)];rfl
   rw [if_pos e]
   exact ⟨D,i,loop_last (by simp) (body_of_sbodyK mixedz (grotI_2 W KK D i j m) gSo_z2 [] [] gSo_z1),rfl,him,by omega,rfl⟩
  ·have c1:(!decide ((i:Int)=(j:Int)))=true:=by rw [decide_eq_false (by omega)];rfl
   have w1:IntKind.i64.wrap ((m:Int) - (i:Int))=((m - i:Nat):Int):=wrapS (by omega) (by omega) (by omega)
   rw [if_neg e]
   by_cases e2:j<i
   ·have c2:decide ((j:Int)<(i:Int))=true:=decide_eq_true (by omega)
    have hws:IntKind.i64.wrap ((i:Int) - (j:Int))=((i - j:Nat):Int):=wrapS (by omega) (by omega) (by omega)
    rw [if_pos e2]
    have hM:=gswpM W KK D (m - i) m j D.length rfl (by omega) (by omega) hD
    have hl:=gswpG_len (m - i) m j 0 D
    generalize swpG (m - i) m j 0 D=D2 at hM hl ⊢
    obtain ⟨D1,k,g1,g2,g3,g4,g5⟩:=ih (i - j) j D2 (by omega) hj (by omega) (by omega) (by omega) (by omega) (by omega)
    have hgl:=hl.symm
    have hb:=grotI_0 W KK D D2 i j m
    rw [w1] at hb
    exact ⟨D1,k,loop_next (body_of_sbodyK mixedz hb (by clear hb g1;exact gSo_z2) [] [] (σ3:=gSrot KK D2 m (i - j) j) (by clear hb g1;exact gSo_z1)) g1,g2,g3,g4,by omega⟩
   ·have c2:decide ((j:Int)<(i:Int))=false:=decide_eq_false (by omega)
    have hws:IntKind.i64.wrap ((j:Int) - (i:Int))=((j - i:Nat):Int):=wrapS (by omega) (by omega) (by omega)
    have w2:IntKind.i64.wrap (IntKind.i64.wrap ((m:Int)+(j:Int)) - (i:Int))=((m+j - i:Nat):Int):=by
     rw [show IntKind.i64.wrap ((m:Int)+(j:Int))=((m+j:Nat):Int) from wrapS (by omega) (by omega) (by omega)]
     exact wrapS (by omega) (by omega) (by omega)
    rw [if_neg e2]
    have hM:=gswpM W KK D (m - i) (m+j - i) i D.length rfl (by omega) (by omega) hD
    have hl:=gswpG_len (m - i) (m+j - i) i 0 D
    generalize swpG (m - i) (m+j - i) i 0 D=D2 at hM hl ⊢
    obtain ⟨D1,k,g1,g2,g3,g4,g5⟩:=ih i (j - i) D2 hi (by omega) (by omega) (by omega) (by omega) (by omega) (by omega)
    have hgl:=hl.symm
    have hb:=grotI_1 W KK D D2 i j m
    rw [w1,w2] at hb
    exact ⟨D1,k,loop_next (body_of_sbodyK mixedz hb (by clear hb g1;exact gSo_z2) [] [] (σ3:=gSrot KK D2 m i (j - i)) (by clear hb g1;exact gSo_z1)) g1,g2,g3,g4,by omega⟩
theorem grotM (D:List GDoc) (a m b f N:Nat) (hN:N=D.length) (h1:a<m) (h2:m<b) (h3:b<=D.length) (h4:D.length<=2 ^ 40) (hf:(m - a)+(b - m)<=f+1) (hf0:0<f):MutC Tryz.prog W 108 [.gs 100000 0 N,iA a,iA m,iA b,(gcmS KK)] (garrD D) (.ret (.tup []) (garrD (rotG m f (m - a) (b - m) D))):=by
 subst hN
 obtain ⟨D1,k,g1,g2,g3,g4,g5⟩:=gloopRot W KK m f (m - a) (b - m) D (by omega) (by omega) hf hf0 (by omega) (by omega) h4
 have hM:=gswpM W KK D1 (m - k) m k D1.length rfl (by omega) (by omega) (by omega)
 rw [g2] at hM
 generalize rotG m f (m - a) (b - m) D=D2 at hM ⊢
 have w1:IntKind.i64.wrap ((m:Int) - (k:Int))=((m - k:Nat):Int):=wrapS (by omega) (by omega) (by omega)
 have hws:IntKind.i64.wrap ((m:Int) - (a:Int))=((m - a:Nat):Int):=wrapS (by omega) (by omega) (by omega)
 have hws2:IntKind.i64.wrap ((b:Int) - (m:Int))=((b - m:Nat):Int):=wrapS (by omega) (by omega) (by omega)
 have hb:=grotF_0 W KK D D1 D2 a b (m - a) (b - m) k m
 rw [w1] at hb
 exact mut_of_sfun mixedz callROT rfl hb (by clear hb;exact gSo_z2)
theorem ginsJ_len (lt:GDoc->GDoc->Bool) (a:Nat):∀ (j:Nat) (D:List GDoc),(insJ lt a j D).length=D.length
 | 0,_=>rfl
 | j+1,D=>by
  rw [insJ]
  split
  ·rw [ginsJ_len lt a j,swapL_len]
  ·rfl
theorem ginsO_len (lt:GDoc->GDoc->Bool) (a:Nat):∀ (k i:Nat) (D:List GDoc),(insO lt a k i D).length=D.length
 | 0,_,_=>rfl
 | k+1,i,D=>by rw [insO,ginsO_len lt a k,ginsJ_len]
variable (hcmp:gCmpC W KK lt)
include hcmp
theorem gloopInsI (a b i:Nat):∀ (j:Nat) (D:List GDoc),j<D.length->D.length<=2 ^ 40->LoopC Tryz.prog W [100000] (nslots Tryz.prog 95) (loopOf Tryz.prog 95 1) (gTins KK D a b i j) (.exit 2) (gSins KK (insJ lt a j D) a b i):=by
 intro j
 induction j with
 | zero =>
  intro D hj hD
  exact loop_last (by simp) (body_of_sbodyK mixedz (ginsI_2 W KK D a b i 0) gSo_z2 [] [] gSo_z1)
 | succ j ih =>
  intro D hj hD
  rw [insJ]
  by_cases ha:a<j+1
  case neg =>
   rw [if_neg (by rintro ⟨q,_⟩;exact ha q)]
   exact loop_last (by simp) (body_of_sbodyK mixedz (ginsI_2 W KK D a b i (j+1)) gSo_z2 [] [] gSo_z1)
  obtain ⟨x,hx⟩:=getOf (l:=D) (i:=j+1) (by omega)
  obtain ⟨y,hy⟩:=getOf (l:=D) (i:=j) (by omega)
  obtain ⟨n,hM,hn⟩:=hcmp x y
  have hws:IntKind.i64.wrap (((j+1:Nat):Int) - 1)=(j:Int):=wrapS (by omega) (by omega) (by omega)
  have g1:=gdocs_at hx
  have g2:=gdocs_at hy
  have g3:=gdocs_at2 hx hy
  have hset:=gdocs_swap hx hy
  have hl:=swapL_len D (j+1) j
  have hgl:=hl.symm
  rw [ltAt_eq hx hy]
  cases hlt:lt x y with
  | true =>
   rw [hlt] at hn
   rw [if_pos ⟨ha,rfl⟩]
   have nx:=ih (swapL D (j+1) j) (by omega) (by omega)
   have hb:=ginsI_0 W KK D a b i (j+1) n x y
   rw [hws] at hb
   exact loop_next (body_of_sbodyK mixedz hb (by clear hb nx;exact gSo_z2) [] [] (σ3:=gTins KK (swapL D (j+1) j) a b i j) (by clear hb nx;exact gSo_z1)) nx
  | false =>
   rw [hlt] at hn
   rw [if_neg (by rintro ⟨_,q⟩;cases q)]
   have hb:=ginsI_1 W KK D a b i (j+1) n x y
   rw [hws] at hb
   exact loop_last (by simp) (body_of_sbodyK mixedz hb (by clear hb;exact gSo_z2) [] [] (by clear hb;exact gSo_z1))
theorem gloopInsO (a b:Nat):∀ (k i:Nat) (D:List GDoc),b - i=k->b<=D.length->D.length<=2 ^ 40->LoopC Tryz.prog W [100000] (nslots Tryz.prog 95) (loopOf Tryz.prog 95 0) (gSins KK D a b i) (.exit 0) (gEst (insO lt a k i D)):=by
 intro k
 induction k with
 | zero =>
  intro i D hk hb hD
  exact loop_last (by simp) (body_of_sbodyK mixedz (ginsO_1 W KK D a b i) gSo_z2 [] [] gSo_z1)
 | succ k ih =>
  intro i D hk hb hD
  have hws:IntKind.i64.wrap ((i:Int)+1)=((i+1:Nat):Int):=wrap_succ (by omega)
  have hl:=gloopInsI W KK hcmp a b i i D (by omega) hD
  have h2:=ginsJ_len lt a i D
  rw [insO]
  have nx:=ih (i+1) (insJ lt a i D) (by omega) (by omega) (by omega)
  generalize insJ lt a i D=D2 at hl h2 nx ⊢
  exact loop_next (body_of_sbodyK mixedz (ginsO_0 W KK D D2 a b i) (by clear nx;exact gSo_z2) [] [] (σ3:=gSins KK D2 a b (i+1)) (by clear nx;exact gSo_z1)) nx
theorem ginsM (D:List GDoc) (a b N:Nat) (hN:N=D.length) (h1:b<=D.length) (h2:D.length<=2 ^ 40) (ha:a<=b):MutC Tryz.prog W 95 [.gs 100000 0 N,iA a,iA b,(gcmS KK)] (garrD D) (.ret (.tup []) (garrD (insO lt a (b - (a+1)) (a+1) D))):=by
 subst hN
 have hl:=gloopInsO W KK hcmp a b (b - (a+1)) (a+1) D rfl h1 h2
 generalize insO lt a (b - (a+1)) (a+1) D=D2 at hl ⊢
 have hws:IntKind.i64.wrap ((a:Int)+1)=((a+1:Nat):Int):=wrap_succ (by omega)
 exact mut_of_sfun mixedz callINS rfl (ginsF_0 W KK D D2 a b) gSo_z2
theorem gloopSy0 (D:List GDoc) (a:Nat) (ha:a<D.length) (hD:D.length<=2 ^ 40):∀ (f i j:Nat),j<=f+i->i<=j->j<=D.length →
 LoopC Tryz.prog W [100000] (nslots Tryz.prog 96) (loopOf Tryz.prog 96 0) (gSsy0 KK D a i j) (.exit 0) ⟨[(0,.gs 100000 0 D.length),(1,iA a),(10,iA (bsG (fun h=>ltAt lt D h a) f i j:Nat))],garrD D⟩:=by
 intro f
 induction f with
 | zero =>
  intro i j h1 h2 h3
  exact loop_last (by simp) (body_of_sbodyK mixedz (gsy0_2 W KK D a i j) gSo_z2 [] [] gSo_z1)
 | succ f ih =>
  intro i j h1 h2 h3
  rw [bsG]
  by_cases hij:i<j
  case neg =>
   rw [if_neg hij]
   exact loop_last (by simp) (body_of_sbodyK mixedz (gsy0_2 W KK D a i j) gSo_z2 [] [] gSo_z1)
  rw [if_pos hij]
  have hmw:=midW (i:=i) (j:=j) (by omega)
  have n1:=fun h=>ih ((i+j) / 2+1) j h (by omega) h3
  have n2:=fun h=>ih i ((i+j) / 2) h (by omega) (by omega)
  have b1:i<=(i+j) / 2/\(i+j) / 2<j:=by omega
  generalize (i+j) / 2=c at *
  obtain ⟨x,hx⟩:=getOf (l:=D) (i:=c) (by omega)
  obtain ⟨y,hy⟩:=getOf (l:=D) (i:=a) (by omega)
  obtain ⟨n,hM,hn⟩:=hcmp x y
  have hws:IntKind.i64.wrap ((c:Int)+1)=((c+1:Nat):Int):=wrap_succ (by omega)
  have g1:=gdocs_at hx
  have g2:=gdocs_at hy
  rw [ltAt_eq hx hy]
  cases hlt:lt x y with
  | true =>
   rw [hlt] at hn
   rw [if_pos rfl]
   have nx:=n1 (by omega)
   have hb:=gsy0_0 W KK D a i j n x y
   rw [hmw] at hb
   exact loop_next (body_of_sbodyK mixedz hb (by clear hb nx n1 n2;exact gSo_z2) [] [] (σ3:=gSsy0 KK D a (c+1) j) (by clear hb nx n1 n2;exact gSo_z1)) nx
  | false =>
   rw [hlt] at hn
   rw [if_neg (by simp)]
   have nx:=n2 (by omega)
   have hb:=gsy0_1 W KK D a i j n x y
   rw [hmw] at hb
   exact loop_next (body_of_sbodyK mixedz hb (by clear hb nx n1 n2;exact gSo_z2) [] [] (σ3:=gSsy0 KK D a i c) (by clear hb nx n1 n2;exact gSo_z1)) nx
theorem gloopSy2 (D:List GDoc) (m:Nat) (hm:m<D.length) (hD:D.length<=2 ^ 40):∀ (f i j:Nat),j<=f+i->i<=j->j<=D.length →
 LoopC Tryz.prog W [100000] (nslots Tryz.prog 96) (loopOf Tryz.prog 96 2) (gSsy2 KK D m i j) (.exit 4) ⟨[(0,.gs 100000 0 D.length),(2,iA m),(14,iA (bsG (fun h=>!ltAt lt D m h) f i j:Nat))],garrD D⟩:=by
 intro f
 induction f with
 | zero =>
  intro i j h1 h2 h3
  exact loop_last (by simp) (body_of_sbodyK mixedz (gsy2_2 W KK D i j m) gSo_z2 [] [] gSo_z1)
 | succ f ih =>
  intro i j h1 h2 h3
  rw [bsG]
  by_cases hij:i<j
  case neg =>
   rw [if_neg hij]
   exact loop_last (by simp) (body_of_sbodyK mixedz (gsy2_2 W KK D i j m) gSo_z2 [] [] gSo_z1)
  rw [if_pos hij]
  have hmw:=midW (i:=i) (j:=j) (by omega)
  have n1:=fun h=>ih ((i+j) / 2+1) j h (by omega) h3
  have n2:=fun h=>ih i ((i+j) / 2) h (by omega) (by omega)
  have b1:i<=(i+j) / 2/\(i+j) / 2<j:=by omega
  generalize (i+j) / 2=c at *
  obtain ⟨x,hx⟩:=getOf (l:=D) (i:=m) (by omega)
  obtain ⟨y,hy⟩:=getOf (l:=D) (i:=c) (by omega)
  obtain ⟨n,hM,hn⟩:=hcmp x y
  have hws:IntKind.i64.wrap ((c:Int)+1)=((c+1:Nat):Int):=wrap_succ (by omega)
  have g1:=gdocs_at hx
  have g2:=gdocs_at hy
  rw [ltAt_eq hx hy]
  cases hlt:lt x y with
  | false =>
   rw [hlt] at hn
   have hn2:(!decide (n<0))=true:=by rw [hn];rfl
   rw [if_pos (show (!false)=true from rfl)]
   have nx:=n1 (by omega)
   have hb:=gsy2_0 W KK D i j m n x y
   rw [hmw] at hb
   exact loop_next (body_of_sbodyK mixedz hb (by clear hb nx n1 n2;exact gSo_z2) [] [] (σ3:=gSsy2 KK D m (c+1) j) (by clear hb nx n1 n2;exact gSo_z1)) nx
  | true =>
   rw [hlt] at hn
   have hn2:(!decide (n<0))=false:=by rw [hn];rfl
   rw [if_neg (by simp)]
   have nx:=n2 (by omega)
   have hb:=gsy2_1 W KK D i j m n x y
   rw [hmw] at hb
   exact loop_next (body_of_sbodyK mixedz hb (by clear hb nx n1 n2;exact gSo_z2) [] [] (σ3:=gSsy2 KK D m i c) (by clear hb nx n1 n2;exact gSo_z1)) nx
theorem gloopSy4 (D:List GDoc) (a m b mid q p st0:Nat) (hp:p<=2 ^ 41) (hD:D.length<=2 ^ 40):∀ (f i j:Nat),j<=f+i->i<=j->st0<=i->j<=D.length->j<=p+1->p<D.length+st0 →
 LoopC Tryz.prog W [100000] (nslots Tryz.prog 96) (loopOf Tryz.prog 96 4) (gSsy4 KK D a m b mid q i j p) (.exit 8) ⟨[(0,.gs 100000 0 D.length),(1,iA a),(2,iA m),(3,iA b),(4,(gcmS KK)),(18,iA mid),(19,iA q),(20,iA (bsG (fun c=>!ltAt lt D (p - c) c) f i j:Nat))],garrD D⟩:=by
 intro f
 induction f with
 | zero =>
  intro i j h1 h2 h3 h4 h5 h6
  exact loop_last (by simp) (body_of_sbodyK mixedz (gsy4_2 W KK D a b q i j m p mid) gSo_z2 [] [] gSo_z1)
 | succ f ih =>
  intro i j h1 h2 h3 h4 h5 h6
  rw [bsG]
  by_cases hij:i<j
  case neg =>
   rw [if_neg hij]
   exact loop_last (by simp) (body_of_sbodyK mixedz (gsy4_2 W KK D a b q i j m p mid) gSo_z2 [] [] gSo_z1)
  rw [if_pos hij]
  have hmw:=midW (i:=i) (j:=j) (by omega)
  have n1:=fun h=>ih ((i+j) / 2+1) j h (by omega) (by omega) h4 h5 h6
  have n2:=fun h=>ih i ((i+j) / 2) h (by omega) h3 (by omega) (by omega) h6
  have b1:i<=(i+j) / 2/\(i+j) / 2<j:=by omega
  generalize (i+j) / 2=c at *
  have hpc:IntKind.i64.wrap ((p:Int) - (c:Int))=((p - c:Nat):Int):=wrapS (by omega) (by omega) (by omega)
  obtain ⟨x,hx⟩:=getOf (l:=D) (i:=p - c) (by omega)
  obtain ⟨y,hy⟩:=getOf (l:=D) (i:=c) (by omega)
  obtain ⟨n,hM,hn⟩:=hcmp x y
  have hws:IntKind.i64.wrap ((c:Int)+1)=((c+1:Nat):Int):=wrap_succ (by omega)
  have g1:=gdocs_at hx
  have g2:=gdocs_at hy
  rw [ltAt_eq hx hy]
  cases hlt:lt x y with
  | false =>
   rw [hlt] at hn
   have hn2:(!decide (n<0))=true:=by rw [hn];rfl
   rw [if_pos (show (!false)=true from rfl)]
   have nx:=n1 (by omega)
   have hb:=gsy4_0 W KK D a b q i j m p mid n x y
   rw [hmw,hpc] at hb
   exact loop_next (body_of_sbodyK mixedz hb (by clear hb nx n1 n2;exact gSo_z2) [] [] (σ3:=gSsy4 KK D a m b mid q (c+1) j p) (by clear hb nx n1 n2;exact gSo_z1)) nx
  | true =>
   rw [hlt] at hn
   have hn2:(!decide (n<0))=false:=by rw [hn];rfl
   rw [if_neg (by simp)]
   have nx:=n2 (by omega)
   have hb:=gsy4_1 W KK D a b q i j m p mid n x y
   rw [hmw,hpc] at hb
   exact loop_next (body_of_sbodyK mixedz hb (by clear hb nx n1 n2;exact gSo_z2) [] [] (σ3:=gSsy4 KK D a m b mid q i c p) (by clear hb nx n1 n2;exact gSo_z1)) nx
omit hcmp
theorem gloopUp (i:Nat):∀ (t k:Nat) (D:List GDoc),i - 1 - k=t->1<=i->i<=D.length->D.length<=2 ^ 40->LoopC Tryz.prog W [100000] (nslots Tryz.prog 96) (loopOf Tryz.prog 96 1) (gSsy1 D i k) (.exit 2) (gEst (upG t k D)):=by
 intro t
 induction t with
 | zero =>
  intro k D hk h1 h2 h3
  have w1:IntKind.i64.wrap ((i:Int) - 1)=((i - 1:Nat):Int):=wrapS (by omega) (by omega) (by omega)
  have hb:=gsy1_1 W D k i
  rw [w1] at hb
  exact loop_last (by simp) (body_of_sbodyK mixedz hb (by clear hb;exact gSo_z2) [] [] (by clear hb;exact gSo_z1))
 | succ t ih =>
  intro k D hk h1 h2 h3
  have w1:IntKind.i64.wrap ((i:Int) - 1)=((i - 1:Nat):Int):=wrapS (by omega) (by omega) (by omega)
  obtain ⟨x,hx⟩:=getOf (l:=D) (i:=k) (by omega)
  obtain ⟨y,hy⟩:=getOf (l:=D) (i:=k+1) (by omega)
  have hws:IntKind.i64.wrap ((k:Int)+1)=((k+1:Nat):Int):=wrap_succ (by omega)
  have g1:=gdocs_at hx
  have g2:=gdocs_at hy
  have g3:=gdocs_at2 hx hy
  have hset:=gdocs_swap hx hy
  have hl:=swapL_len D k (k+1)
  have hgl:=hl.symm
  rw [upG]
  have nx:=ih (k+1) (swapL D k (k+1)) (by omega) h1 (by omega) (by omega)
  have hb:=gsy1_0 W D k i x y
  rw [w1,hws] at hb
  exact loop_next (body_of_sbodyK mixedz hb (by clear hb nx;exact gSo_z2) [] [] (σ3:=gSsy1 (swapL D k (k+1)) i (k+1)) (by clear hb nx;exact gSo_z1)) nx
theorem gloopDn (i:Nat):∀ (t k:Nat) (D:List GDoc),k - i=t->k<D.length->D.length<=2 ^ 40->LoopC Tryz.prog W [100000] (nslots Tryz.prog 96) (loopOf Tryz.prog 96 3) (gSsy3 D i k) (.exit 6) (gEst (dnG t k D)):=by
 intro t
 induction t with
 | zero =>
  intro k D hk h2 h3
  exact loop_last (by simp) (body_of_sbodyK mixedz (gsy3_1 W D i k) gSo_z2 [] [] gSo_z1)
 | succ t ih =>
  intro k D hk h2 h3
  obtain ⟨x,hx⟩:=getOf (l:=D) (i:=k) (by omega)
  obtain ⟨y,hy⟩:=getOf (l:=D) (i:=k - 1) (by omega)
  have hws:IntKind.i64.wrap ((k:Int) - 1)=((k - 1:Nat):Int):=wrapS (by omega) (by omega) (by omega)
  have g1:=gdocs_at hx
  have g2:=gdocs_at hy
  have g3:=gdocs_at2 hx hy
  have hset:=gdocs_swap hx hy
  have hl:=swapL_len D k (k - 1)
  have hgl:=hl.symm
  rw [dnG]
  have nx:=ih (k - 1) (swapL D k (k - 1)) (by omega) (by omega) (by omega)
  have hb:=gsy3_0 W D i k x y
  rw [hws] at hb
  exact loop_next (body_of_sbodyK mixedz hb (by clear hb nx;exact gSo_z2) [] [] (σ3:=gSsy3 (swapL D k (k - 1)) i (k - 1)) (by clear hb nx;exact gSo_z1)) nx
theorem gupG_len:∀ (k i:Nat) (D:List GDoc),(upG k i D).length=D.length
 | 0,_,_=>rfl
 | k+1,i,D=>by rw [upG,gupG_len k,swapL_len]
theorem gdnG_len:∀ (k i:Nat) (D:List GDoc),(dnG k i D).length=D.length
 | 0,_,_=>rfl
 | k+1,i,D=>by rw [dnG,gdnG_len k,swapL_len]
theorem gsymM_len (lt:GDoc->GDoc->Bool):∀ (f a m b:Nat) (D:List GDoc),(symM lt f a m b D).length=D.length
 | 0,_,_,_,_=>rfl
 | f+1,a,m,b,D=>by
  rw [symM]
  split
  ·exact gupG_len _ _ _
  ·split
   ·exact gdnG_len _ _ _
   ·dsimp only
    have h2:∀ (c:Prop) [Decidable c] (x y z:Nat) (E:List GDoc),(if c then symM lt f x y z E else E).length=E.length:=fun c _ x y z E=>by
     split
     ·exact gsymM_len lt f _ _ _ _
     ·rfl
    have h1:∀ (c:Prop) [Decidable c] (x y z w:Nat) (E:List GDoc),(if c then rotG x y z w E else E).length=E.length:=fun c _ x y z w E=>by
     split
     ·exact grotG_len _ _ _ _ _
     ·rfl
    rw [h2,h2,h1]
include hcmp
theorem gsymMM:∀ (f:Nat) (D:List GDoc) (a m b N:Nat),N=D.length->a<m->m<b->b<=D.length->b - a<=f->D.length<=2 ^ 40 →
 MutC Tryz.prog W 96 [.gs 100000 0 N,iA a,iA m,iA b,(gcmS KK)] (garrD D) (.ret (.tup []) (garrD (symM lt f a m b D))):=by
 intro f
 induction f with
 | zero=>intro D a m b N _ _ _ _ h;omega
 | succ f ih =>
  intro D a m b N hN h1 h2 h3 hf hD
  subst hN
  have wma:IntKind.i64.wrap ((m:Int) - (a:Int))=((m - a:Nat):Int):=wrapS (by omega) (by omega) (by omega)
  have wbm:IntKind.i64.wrap ((b:Int) - (m:Int))=((b - m:Nat):Int):=wrapS (by omega) (by omega) (by omega)
  by_cases c1:m - a=1
  ·have l0:=gloopSy0 W KK hcmp D a (by omega) hD b m b (by omega) (by omega) h3
   obtain ⟨k,hk,k1,k2,_,_⟩:=bsG_ok (fun h=>ltAt lt D h a) b m b (by omega) (by omega)
   rw [symM,if_pos c1]
   rw [hk] at l0 ⊢
   have l1:=gloopUp W k (k - 1 - a) a D rfl (by omega) (by omega) hD
   generalize upG (k - 1 - a) a D=D2 at l1 ⊢
   have hb:=gsymA_0 W KK D D2 a b k m
   rw [wma] at hb
   exact mut_of_sfun mixedz callSYM rfl hb (by clear hb ih hk;exact gSo_z2)
  by_cases c2:b - m=1
  ·have l0:=gloopSy2 W KK hcmp D m (by omega) hD b a m (by omega) (by omega) (by omega)
   obtain ⟨k,hk,k1,k2,_,_⟩:=bsG_ok (fun h=>!ltAt lt D m h) b a m (by omega) (by omega)
   rw [symM,if_neg c1,if_pos c2]
   rw [hk] at l0 ⊢
   have l1:=gloopDn W k (m - k) m D rfl (by omega) hD
   generalize dnG (m - k) m D=D2 at l1 ⊢
   have hb:=gsymB_0 W KK D D2 a b k m
   rw [wma,wbm] at hb
   exact mut_of_sfun mixedz callSYM rfl hb (by clear hb ih hk;exact gSo_z2)
  have hmw:=midW (i:=a) (j:=b) (by omega)
  have hS:∀ mid st en st0 r0 D1 D2 D3,(a+b) / 2=mid->(if mid<m then mid+m - b else a)=st0->(if mid<m then mid else m)=r0->bsG (fun c=>!ltAt lt D (mid+m - 1 - c) c) b st0 r0=st->mid+m - st=en →
   (if st<m/\m<en then rotG m b (m - st) (en - m) D else D)=D1->(if a<st/\st<mid then symM lt f a st mid D1 else D1)=D2->(if mid<en/\en<b then symM lt f mid en b D2 else D2)=D3->symM lt (f+1) a m b D=D3:=by
   intro mid st en st0 r0 D1 D2 D3 e1 e2 e3 e4 e5 e6 e7 e8
   rw [symM,if_neg c1,if_neg c2]
   dsimp only
   rw [e1,e2,e3,e4,e5,e6,e7,e8]
  have hmid:(a+b) / 2=(a+b) / 2:=rfl
  generalize hmd:(a+b) / 2=mid at *
  generalize hst0:(if mid<m then mid+m - b else a)=st0 at *
  generalize hr0:(if mid<m then mid else m)=r0 at *
  have hb0:a<=st0/\st0<=r0/\r0<=m/\mid+m<=st0+b/\r0<=mid:=by
   split at hst0<;>split at hr0<;>omega
  have l4:=gloopSy4 W KK hcmp D a m b mid (mid+m) (mid+m - 1) st0 (by omega) hD b st0 r0 (by omega) (by omega) (Nat.le_refl _) (by omega) (by omega) (by omega)
  obtain ⟨st,hst,s1,s2,_,_⟩:=bsG_ok (fun c=>!ltAt lt D (mid+m - 1 - c) c) b st0 r0 (by omega) (by omega)
  rw [hst] at l4
  have hSS:=hS mid st (mid+m - st) st0 r0 _ _ _ rfl hst0 hr0 hst rfl rfl rfl rfl
  have wen:IntKind.i64.wrap (((mid+m:Nat):Int) - (st:Int))=((mid+m - st:Nat):Int):=wrapS (by omega) (by omega) (by omega)
  have wn:IntKind.i64.wrap ((mid:Int)+(m:Int))=((mid+m:Nat):Int):=wrapS (by omega) (by omega) (by omega)
  have wp:IntKind.i64.wrap (((mid+m:Nat):Int) - 1)=((mid+m - 1:Nat):Int):=wrapS (by omega) (by omega) (by omega)
  rw [hSS]
  clear hSS hS
  generalize hen:mid+m - st=en at *
  have k1:st<m->st<mid->MutC Tryz.prog W 108 [.gs 100000 0 D.length,iA st,iA m,iA en,(gcmS KK)] (garrD D) (.ret (.tup []) (garrD (if st<m/\m<en then rotG m b (m - st) (en - m) D else D))):=fun q1 q2=>by
   rw [if_pos ⟨q1,by omega⟩]
   exact grotM W KK D st m en b D.length rfl q1 (by omega) (by omega) hD (by omega) (by omega)
  have n1:¬ (st<m/\st<mid)->(if st<m/\m<en then rotG m b (m - st) (en - m) D else D)=D:=fun q=>if_neg (by omega)
  have e1:(if st<m/\m<en then rotG m b (m - st) (en - m) D else D).length=D.length:=by
   split
   ·exact grotG_len _ _ _ _ _
   ·rfl
  generalize (if st<m/\m<en then rotG m b (m - st) (en - m) D else D)=D1 at *
  have k2:a<st->st<mid->MutC Tryz.prog W 96 [.gs 100000 0 D.length,iA a,iA st,iA mid,(gcmS KK)] (garrD D1) (.ret (.tup []) (garrD (if a<st/\st<mid then symM lt f a st mid D1 else D1))):=fun q1 q2=>by
   rw [if_pos ⟨q1,q2⟩]
   exact ih D1 a st mid D.length e1.symm q1 q2 (by omega) (by omega) (by omega)
  have n2:¬ (a<st/\st<mid)->(if a<st/\st<mid then symM lt f a st mid D1 else D1)=D1:=fun q=>if_neg q
  have e2:(if a<st/\st<mid then symM lt f a st mid D1 else D1).length=D.length:=by
   split
   ·rw [gsymM_len];exact e1
   ·exact e1
  generalize (if a<st/\st<mid then symM lt f a st mid D1 else D1)=D2 at *
  have k3:st<m->en<b->MutC Tryz.prog W 96 [.gs 100000 0 D.length,iA mid,iA en,iA b,(gcmS KK)] (garrD D2) (.ret (.tup []) (garrD (if mid<en/\en<b then symM lt f mid en b D2 else D2))):=fun q1 q2=>by
   rw [if_pos ⟨by omega,q2⟩]
   exact ih D2 mid en b D.length e2.symm (by omega) q2 (by omega) (by omega) (by omega)
  have n3:¬ (st<m/\en<b)->(if mid<en/\en<b then symM lt f mid en b D2 else D2)=D2:=fun q=>if_neg (by omega)
  generalize (if mid<en/\en<b then symM lt f mid en b D2 else D2)=D3 at *
  clear ih
  by_cases hlo:mid<m
  ·rw [if_pos hlo] at hst0 hr0
   have wst:IntKind.i64.wrap (((mid+m:Nat):Int) - (b:Int))=(st0:Int):=wrapS (by omega) (by omega) (by omega)
   have wr:r0=mid:=hr0.symm
   have p:st<m:=by omega
   by_cases q:st<mid
   ·have K1:=k1 p q
    by_cases b1:a<st
    ·have K2:=k2 b1 q
     by_cases cc:en<b
     ·have K3:=k3 p cc
      have hb:=gsymLTTTT_0 W KK D D1 D2 D3 a b (mid+m) st0 r0 m (mid+m - 1) mid st
      rw [hmw,wn,wst,wp,wen,wma,wbm] at hb
      exact mut_of_sfun mixedz callSYM rfl hb (by clear hb k1 k2 k3 n1 n2 n3 hst;subst wr;exact gSo_z2)
     ·obtain rfl:=n3 (by omega)
      have hb:=gsymLTTTF_0 W KK D D1 D3 a b (mid+m) st0 r0 m (mid+m - 1) mid st
      rw [hmw,wn,wst,wp,wen,wma,wbm] at hb
      exact mut_of_sfun mixedz callSYM rfl hb (by clear hb k1 k2 k3 n1 n2 n3 hst;subst wr;exact gSo_z2)
    ·obtain rfl:=n2 (by omega)
     by_cases cc:en<b
     ·have K3:=k3 p cc
      have hb:=gsymLTTFT_0 W KK D D2 D3 a b (mid+m) st0 r0 m (mid+m - 1) mid st
      rw [hmw,wn,wst,wp,wen,wma,wbm] at hb
      exact mut_of_sfun mixedz callSYM rfl hb (by clear hb k1 k2 k3 n1 n2 n3 hst;subst wr;exact gSo_z2)
     ·obtain rfl:=n3 (by omega)
      have hb:=gsymLTTFF_0 W KK D D3 a b (mid+m) st0 r0 m (mid+m - 1) mid st
      rw [hmw,wn,wst,wp,wen,wma,wbm] at hb
      exact mut_of_sfun mixedz callSYM rfl hb (by clear hb k1 k2 k3 n1 n2 n3 hst;subst wr;exact gSo_z2)
   ·obtain rfl:=n1 (by omega)
    obtain rfl:=n2 (by omega)
    have b1:a<st:=by omega
    have cc:en<b:=by omega
    have K3:=k3 p cc
    have hb:=gsymLTFTT_0 W KK D2 D3 a b (mid+m) st0 r0 m (mid+m - 1) mid st
    rw [hmw,wn,wst,wp,wen,wma,wbm] at hb
    exact mut_of_sfun mixedz callSYM rfl hb (by clear hb k1 k2 k3 n1 n2 n3 hst;subst wr;exact gSo_z2)
  ·rw [if_neg hlo] at hst0 hr0
   have wst:st0=a:=hst0.symm
   have wr:r0=m:=hr0.symm
   by_cases p:st<m
   ·have q:st<mid:=by omega
    have K1:=k1 p q
    by_cases b1:a<st
    ·have K2:=k2 b1 q
     by_cases cc:en<b
     ·have K3:=k3 p cc
      have hb:=gsymHTTTT_0 W KK D D1 D2 D3 a b (mid+m) st0 r0 m (mid+m - 1) mid st
      rw [hmw,wn,wp,wen,wma,wbm] at hb
      exact mut_of_sfun mixedz callSYM rfl hb (by clear hb k1 k2 k3 n1 n2 n3 hst;subst wst wr;exact gSo_z2)
     ·obtain rfl:=n3 (by omega)
      have hb:=gsymHTTTF_0 W KK D D1 D3 a b (mid+m) st0 r0 m (mid+m - 1) mid st
      rw [hmw,wn,wp,wen,wma,wbm] at hb
      exact mut_of_sfun mixedz callSYM rfl hb (by clear hb k1 k2 k3 n1 n2 n3 hst;subst wst wr;exact gSo_z2)
    ·obtain rfl:=n2 (by omega)
     by_cases cc:en<b
     ·have K3:=k3 p cc
      have hb:=gsymHTTFT_0 W KK D D2 D3 a b (mid+m) st0 r0 m (mid+m - 1) mid st
      rw [hmw,wn,wp,wen,wma,wbm] at hb
      exact mut_of_sfun mixedz callSYM rfl hb (by clear hb k1 k2 k3 n1 n2 n3 hst;subst wst wr;exact gSo_z2)
     ·obtain rfl:=n3 (by omega)
      have hb:=gsymHTTFF_0 W KK D D3 a b (mid+m) st0 r0 m (mid+m - 1) mid st
      rw [hmw,wn,wp,wen,wma,wbm] at hb
      exact mut_of_sfun mixedz callSYM rfl hb (by clear hb k1 k2 k3 n1 n2 n3 hst;subst wst wr;exact gSo_z2)
   ·obtain rfl:=n1 (by omega)
    obtain rfl:=n3 (by omega)
    have b1:a<st:=by omega
    by_cases q:st<mid
    ·have K2:=k2 b1 q
     have hb:=gsymHFTTN_0 W KK D1 D3 a b (mid+m) st0 r0 m (mid+m - 1) mid st
     rw [hmw,wn,wp,wen,wma,wbm] at hb
     exact mut_of_sfun mixedz callSYM rfl hb (by clear hb k1 k2 k3 n1 n2 n3 hst;subst wst wr;exact gSo_z2)
    ·obtain rfl:=n2 (by omega)
     have hb:=gsymHFFTN_0 W KK D3 a b (mid+m) st0 r0 m (mid+m - 1) mid st
     rw [hmw,wn,wp,wen,wma,wbm] at hb
     exact mut_of_sfun mixedz callSYM rfl hb (by clear hb k1 k2 k3 n1 n2 n3 hst;subst wst wr;exact gSo_z2)
end
end De
end Go.Ac

namespace Go.Ac
open Go Go.Proofs
set_option maxRecDepth 10000
set_option maxHeartbeats 1000000
namespace De
open Dd
section
variable (W:World) (KK:KS) {lt:GDoc->GDoc->Bool} (hcmp:gCmpC W KK lt)
theorem gblkG_len (lt:GDoc->GDoc->Bool) (n:Nat):∀ (f a:Nat) (D:List GDoc),(blkG lt n f a D).2.length=D.length
 | 0,_,_=>rfl
 | f+1,a,D=>by
  rw [blkG]
  split
  ·rw [gblkG_len lt n f,ginsO_len]
  ·rfl
theorem gblkG_le (lt:GDoc->GDoc->Bool) (n:Nat):∀ (f a:Nat) (D:List GDoc),a<=n->(blkG lt n f a D).1<=n
 | 0,_,_,h=>h
 | f+1,a,D,h=>by
  rw [blkG]
  split
  ·exact gblkG_le lt n f _ _ (by omega)
  ·exact h
theorem gmrgG_len (lt:GDoc->GDoc->Bool) (n bs:Nat):∀ (f a:Nat) (D:List GDoc),(mrgG lt n bs f a D).2.length=D.length
 | 0,_,_=>rfl
 | f+1,a,D=>by
  rw [mrgG]
  split
  ·rw [gmrgG_len lt n bs f,gsymM_len]
  ·rfl
theorem gmrgG_le (lt:GDoc->GDoc->Bool) (n bs:Nat):∀ (f a:Nat) (D:List GDoc),a<=n->(mrgG lt n bs f a D).1<=n
 | 0,_,_,h=>h
 | f+1,a,D,h=>by
  rw [mrgG]
  split
  ·exact gmrgG_le lt n bs f _ _ (by omega)
  ·exact h
theorem glvlG_len (lt:GDoc->GDoc->Bool) (n bs:Nat) (D:List GDoc):(lvlG lt n bs D).length=D.length:=by
 unfold lvlG
 dsimp only
 split
 ·rw [gsymM_len,gmrgG_len]
 ·rw [gmrgG_len]
include hcmp
theorem gloopSt0 (n:Nat):∀ (f a:Nat) (D:List GDoc),n=D.length->D.length<=2 ^ 40->n<=f+a->a<=n →
 LoopC Tryz.prog W [100000] (nslots Tryz.prog 74) (loopOf Tryz.prog 74 0) (gSst0 KK D n 20 a (a+20)) (.exit 0) ⟨[(0,.gs 100000 0 (blkG lt n f a D).2.length),(1,iA n),(2,(gcmS KK)),(6,iA 20),(7,iA ((blkG lt n f a D).1:Nat))],garrD (blkG lt n f a D).2⟩:=by
 intro f
 induction f with
 | zero =>
  intro a D hn hD hf han
  exact loop_last (by simp) (body_of_sbodyK mixedz (gst0_1 W KK D a (a+20) n 20) gSo_z2 [] [] gSo_z1)
 | succ f ih =>
  intro a D hn hD hf han
  rw [blkG]
  by_cases q:a+20<=n
  case neg =>
   rw [if_neg q]
   exact loop_last (by simp) (body_of_sbodyK mixedz (gst0_1 W KK D a (a+20) n 20) gSo_z2 [] [] gSo_z1)
  rw [if_pos q]
  have hM:=ginsM W KK hcmp D a (a+20) D.length rfl (by omega) hD (by omega)
  rw [show a+20 - (a+1)=20 - 1 by omega] at hM
  have hl:=ginsO_len lt a (20 - 1) (a+1) D
  have nx:=ih (a+20) (insO lt a (20 - 1) (a+1) D) (by omega) (by omega) (by omega) (by omega)
  generalize insO lt a (20 - 1) (a+1) D=D2 at hM hl nx ⊢
  have hgl:=hl.symm
  have hws:IntKind.i64.wrap (((a+20:Nat):Int)+((20:Nat):Int))=((a+20+20:Nat):Int):=wrapS (by omega) (by omega) (by omega)
  have hb:=gst0_0 W KK D D2 a (a+20) n 20
  rw [hws] at hb
  exact loop_next (body_of_sbodyK mixedz hb (by clear hb nx ih;exact gSo_z2) [] [] (σ3:=gSst0 KK D2 n 20 (a+20) (a+20+20)) (by clear hb nx ih;exact gSo_z1)) nx
theorem gloopSt1 (n bs:Nat) (hbs:0<bs) (hbs2:bs<=2 ^ 42):∀ (f a:Nat) (D:List GDoc),n=D.length->D.length<=2 ^ 40->n<=f+a->a<=n →
 LoopC Tryz.prog W [100000] (nslots Tryz.prog 74) (loopOf Tryz.prog 74 2) (gSst0 KK D n bs a (a+2 * bs)) (.exit 4) ⟨[(0,.gs 100000 0 (mrgG lt n bs f a D).2.length),(1,iA n),(2,(gcmS KK)),(6,iA bs),(7,iA ((mrgG lt n bs f a D).1:Nat))],garrD (mrgG lt n bs f a D).2⟩:=by
 intro f
 induction f with
 | zero =>
  intro a D hn hD hf han
  exact loop_last (by simp) (body_of_sbodyK mixedz (gst1_1 W KK D a (a+2 * bs) n bs) gSo_z2 [] [] gSo_z1)
 | succ f ih =>
  intro a D hn hD hf han
  rw [mrgG]
  by_cases q:a+2 * bs<=n
  case neg =>
   rw [if_neg q]
   exact loop_last (by simp) (body_of_sbodyK mixedz (gst1_1 W KK D a (a+2 * bs) n bs) gSo_z2 [] [] gSo_z1)
  rw [if_pos q]
  have hM:=gsymMM W KK hcmp n D a (a+bs) (a+2 * bs) D.length rfl (by omega) (by omega) (by omega) (by omega) hD
  have hl:=gsymM_len lt n a (a+bs) (a+2 * bs) D
  have nx:=ih (a+2 * bs) (symM lt n a (a+bs) (a+2 * bs) D) (by omega) (by omega) (by omega) (by omega)
  generalize symM lt n a (a+bs) (a+2 * bs) D=D2 at hM hl nx ⊢
  have hgl:=hl.symm
  have w1:IntKind.i64.wrap ((a:Int)+(bs:Int))=((a+bs:Nat):Int):=wrapS (by omega) (by omega) (by omega)
  have w2:IntKind.i64.wrap (2 * (bs:Int))=((2 * bs:Nat):Int):=wrapS (by omega) (by omega) (by omega)
  have w3:IntKind.i64.wrap (((a+2 * bs:Nat):Int)+((2 * bs:Nat):Int))=((a+2 * bs+2 * bs:Nat):Int):=wrapS (by omega) (by omega) (by omega)
  have hb:=gst1_0 W KK D D2 a (a+2 * bs) n bs
  rw [w1,w2,w3] at hb
  exact loop_next (body_of_sbodyK mixedz hb (by clear hb nx ih;exact gSo_z2) [] [] (σ3:=gSst0 KK D2 n bs (a+2 * bs) (a+2 * bs+2 * bs)) (by clear hb nx ih;exact gSo_z1)) nx
theorem gloopSt2 (n:Nat):∀ (f bs:Nat) (D:List GDoc),n=D.length->D.length<=2 ^ 40->n<=f+bs->0<bs->bs<=2 ^ 41 →
 LoopC Tryz.prog W [100000] (nslots Tryz.prog 74) (loopOf Tryz.prog 74 1) (gSst1 KK D n bs) (.exit 2) (gEst (mrgO lt n f bs D)):=by
 intro f
 induction f with
 | zero =>
  intro bs D hn hD hf hb0 hb1
  exact loop_last (by simp) (body_of_sbodyK mixedz (gst2_2 W KK D n bs) gSo_z2 [] [] gSo_z1)
 | succ f ih =>
  intro bs D hn hD hf hb0 hb1
  rw [mrgO]
  by_cases q:bs<n
  case neg =>
   rw [if_neg q]
   exact loop_last (by simp) (body_of_sbodyK mixedz (gst2_2 W KK D n bs) gSo_z2 [] [] gSo_z1)
  rw [if_pos q]
  have l1:=gloopSt1 W KK hcmp n bs hb0 (by omega) n 0 D hn hD (by omega) (by omega)
  rw [Nat.zero_add] at l1
  have hl1:=gmrgG_len lt n bs n 0 D
  have hle:=gmrgG_le lt n bs n 0 D (by omega)
  have nx:=ih (bs * 2) (lvlG lt n bs D) (by rw [glvlG_len];exact hn) (by rw [glvlG_len];exact hD) (by omega) (by omega) (by omega)
  have hlv:lvlG lt n bs D=if (mrgG lt n bs n 0 D).1+bs<n then symM lt n (mrgG lt n bs n 0 D).1 ((mrgG lt n bs n 0 D).1+bs) n (mrgG lt n bs n 0 D).2 else (mrgG lt n bs n 0 D).2:=rfl
  have hgl0:=glvlG_len lt n bs D
  generalize (mrgG lt n bs n 0 D).1=a at *
  generalize (mrgG lt n bs n 0 D).2=D1 at *
  have hws:IntKind.i64.wrap ((bs:Int) * 2)=((bs * 2:Nat):Int):=wrapS (by omega) (by omega) (by omega)
  have w2:IntKind.i64.wrap (2 * (bs:Int))=((2 * bs:Nat):Int):=wrapS (by omega) (by omega) (by omega)
  have w1:IntKind.i64.wrap ((a:Int)+(bs:Int))=((a+bs:Nat):Int):=wrapS (by omega) (by omega) (by omega)
  by_cases q2:a+bs<n
  ·rw [if_pos q2] at hlv
   have hM:=gsymMM W KK hcmp n D1 a (a+bs) n D1.length rfl (by omega) (by omega) (by omega) (by omega) (by omega)
   rw [<-hlv] at hM
   generalize lvlG lt n bs D=D2 at *
   have hgl:D1.length=D2.length:=by omega
   have hb:=gst2_0 W KK D D1 D2 a (2 * bs) n bs
   rw [w1,w2] at hb
   exact loop_next (body_of_sbodyK mixedz hb (by clear hb nx ih;exact gSo_z2) [] [] (σ3:=gSst1 KK D2 n (bs * 2)) (by clear hb nx ih;exact gSo_z1)) nx
  ·rw [if_neg q2] at hlv
   rw [hlv] at nx ⊢
   have hb:=gst2_1 W KK D D1 a (2 * bs) n bs
   rw [w1,w2] at hb
   exact loop_next (body_of_sbodyK mixedz hb (by clear hb nx ih;exact gSo_z2) [] [] (σ3:=gSst1 KK D1 n (bs * 2)) (by clear hb nx ih;exact gSo_z1)) nx
theorem gsortM (hw:SWO lt) (D:List GDoc) (hD:D.length<=2 ^ 40):MutC Tryz.prog W 40 [.gs 100000 0 D.length,(gcmS KK)] (garrD D) (.ret (.tup []) (garrD (sortS lt D))):=by
 have hst:MutC Tryz.prog W 74 [.gs 100000 0 D.length,iA D.length,(gcmS KK)] (garrD D) (.ret (.tup []) (garrD (stabG lt D))):=by
  have l0:=gloopSt0 W KK hcmp D.length D.length 0 D rfl hD (by omega) (by omega)
  rw [Nat.zero_add] at l0
  have hl:=gblkG_len lt D.length D.length 0 D
  have hle:=gblkG_le lt D.length D.length 0 D (by omega)
  have hs:stabG lt D=mrgO lt D.length D.length 20 (insO lt (blkG lt D.length D.length 0 D).1 (D.length - ((blkG lt D.length D.length 0 D).1+1)) ((blkG lt D.length D.length 0 D).1+1) (blkG lt D.length D.length 0 D).2):=rfl
  generalize (blkG lt D.length D.length 0 D).1=a at *
  generalize (blkG lt D.length D.length 0 D).2=D1 at *
  have hM:=ginsM W KK hcmp D1 a D.length D1.length rfl (by omega) (by omega) hle
  have hl2:=ginsO_len lt a (D.length - (a+1)) (a+1) D1
  generalize insO lt a (D.length - (a+1)) (a+1) D1=D2 at *
  have l2:=gloopSt2 W KK hcmp D.length D.length 20 D2 (by omega) (by omega) (by omega) (by omega) (by omega)
  rw [<-hs] at l2
  generalize stabG lt D=D3 at l2 ⊢
  have hgl:D1.length=D2.length:=by omega
  exact mut_of_sfun mixedz callST rfl (gstF_0 W KK D D1 D2 D3 a D.length) gSo_z2
 rw [stabG_ok hw] at hst
 generalize sortS lt D=D2 at hst ⊢
 exact mut_of_sfun mixedz callSF rfl (gsfF_0 W KK D D2) gSo_z2
end
end De
end Go.Ac

namespace Go.Ac
open Go Go.Proofs
set_option maxRecDepth 10000
set_option maxHeartbeats 1000000
namespace De
open Dd
def gS16 (KK:KS) (M L:List GDoc):AS:=⟨[(0,.sl 2 (rksA KK) []),(5,.gs 100000 0 M.length),(6,.gs 100001 0 L.length)],[(100000,.arr 40 7 (docsG M) .own),(100001,.arr 40 7 (docsG L) .own)]⟩
def gT16 (KK:KS) (M L:List GDoc) (at_ i:Nat):AS:=⟨[(0,.sl 2 (rksA KK) []),(5,.gs 100000 0 M.length),(6,.gs 100001 0 L.length),(7,iA at_),(8,iA i)],[(100000,.arr 40 7 (docsG M) .own),(100001,.arr 40 7 (docsG L) .own)]⟩
def gU16 (KK:KS) (M L:List GDoc) (at_:Nat):AS:=⟨[(0,.sl 2 (rksA KK) []),(5,.gs 100000 0 M.length),(6,.gs 100001 0 L.length),(7,iA at_)],[(100000,.arr 40 7 (docsG M) .own),(100001,.arr 40 7 (docsG L) .own)]⟩
def gE16 (M:List GDoc):AS:=⟨[(5,.gs 100000 0 M.length)],[(100000,.arr 40 7 (docsG M) .own)]⟩
theorem gp15_0 (W:World) (KK:KS) (D D2:List GDoc):sF W {lp:=true,ol:=true,tl:=[40],fin:=9} 15 [sortA KK,.sl 7 (docsG D) []] [] 100000 [aE 2,.lg,ee,.lg,ee,cR (.tup []) [(100001,.arr 40 7 (docsG D2) .own)],ee,.fin [] [] (.gs 100001 0 D.length) [(100001,.arr 40 7 (docsG D2) .own)],ee] []=.ok (.ret (.gs 100001 0 D.length) [(100001,.arr 40 7 (docsG D2) .own)],[ee],[MatchK [] [] [] {t:=[(0,.gs 100001 0 (0+(docsG D).length))],h:=[(100000,.dead),(100001,.arr 40 7 (docsG D2) .own)]} {t:=[(0,.gs 100001 0 D.length)],h:=[(100001,.arr 40 7 (docsG D2) .own)]},MZ W 40 [.gs 100001 0 (0+(docsG D).length),gcmS KK] [(100001,.arr 40 7 (docsG D) .own)] (.ret (.tup []) [(100001,.arr 40 7 (docsG D2) .own)]),cloHs [(100001,.arr 40 7 (docsG D) .own)],(0+(docsG D).length) * 104<=140737488355328]):=kr
theorem gzhN {p:Prop} (h:p:=by and_intros<;>first|exact trivial|exact gOK_ph' rfl (by decide) rfl|exact gOK_eq rfl rfl rfl|exact gOK_arr rfl rfl rfl (gdocs_clo _)|exact gOK_arr rfl rfl hset1 (gdocs_clo _)|exact gOK_arr rfl rfl hset2 (gdocs_clo _)):p:=h
theorem gzlN {φ ph x y} (h:LeP φ ph x y:=by first|exact .eq rfl rfl|exact .same rfl (gcmS_clo _)|exact .same rfl (by simp only [AV.clo,rks_clo])|exact .nil rfl|exact .same (by rw [hws];rfl) rfl|exact .same (by rw [hws2];rfl) rfl|exact .eq (congrArg (AV.gs _ 0) hgl) rfl|exact .eq (congrArg (AV.gs _ 0) hgl2) rfl):LeP φ ph x y:=h
theorem gztN {p:Prop} (h:p:=by and_intros<;>first|exact trivial|exact gzlN):p:=h
theorem gzvN {p:Prop} (h:p:=by and_intros<;>first|rfl|exact trivial|exact allN_clo (gcmS_clo _)|exact allN_clo (by simp only [AV.clo,rks_clo])|exact allN_clo zb|exact allN_cloL (gdocs_clo _)):p:=h
theorem gSn_z1 {kp f ph σ σ'} (h:MatchK kp f ph σ σ':=by exact ⟨by rfl,(by simp only [gS16,gT16,gU16,gE16,tOK,List.map_cons,List.map_nil,and_true]<;>exact gztN),(by simp only [gS16,gT16,gU16,gE16,hOK,List.map_cons,List.map_nil,and_true]<;>exact gzhN),(by simp only [gS16,gT16,gU16,gE16,liveT,List.map_cons,List.map_nil,and_true]<;>exact gzvN),(by simp only [gS16,gT16,gU16,gE16,liveH,List.map_cons,List.map_nil,and_true]<;>exact gzvN)⟩):MatchK kp f ph σ σ':=h
theorem gSn_z2 {cs} (h:Holds cs:=by simp only [Holds,cloHs,and_true]<;>and_intros<;>first|assumption|exact rks_clo _|exact gdocs_clo _|exact decide_eq_true (by omega)|exact decide_eq_false (by omega)|omega|exact trivial|exact .inl trivial|exact .inr ⟨trivial,hgl3⟩|(constructor<;>omega)|exact gSn_z1):Holds cs:=h
def gLt (KK:KS) (x y:GDoc):Bool:=decide (cmpD KK x.doc y.doc<0)
theorem gSwo (KK:KS):SWO (gLt KK):=Cmp3.swo (cmp_key (cmpD_cmp KK) GDoc.doc)
section
variable (W:World) (KK:KS) (hK:KK.length<=2 ^ 40)
include hK
theorem gcmpN:gCmpC W KK (gLt KK):=fun x y=>⟨cmpD KK x.doc y.doc,compare13 W KK x.doc y.doc x.ok y.ok hK,rfl⟩
omit hK
theorem gdocs_flat (D:List GDoc):cloL (flats (docsG D))=true:=cloL_flats' (gdocs_clo D)
include hK
theorem gorder15M (D:List GDoc) (hD:D.length<=2 ^ 39):MutC Tryz.prog W 15 [sortA KK,.sl 7 (docsG D) []] [] (.ret (.gs 100001 0 (sortS (gLt KK) D).length) [(100001,.arr 40 7 (docsG (sortS (gLt KK) D)) .own)]):=by
 have h1:=gsortM W KK (gcmpN W KK hK) (gSwo KK) D (by omega)
 have hl:=sort_len (lt:=(gLt KK)) D
 generalize sortS (gLt KK) D=D2 at *
 have hdl:=gdocs_len D
 have h2:MutC Tryz.prog W 40 [.gs 100001 0 (0+(docsG D).length),gcmS KK] [(100001,.arr 40 7 (docsG D) .own)] (.ret (.tup []) [(100001,.arr 40 7 (docsG D2) .own)]):=by
  rw [Nat.zero_add,hdl]
  exact mut_nameA (k1:=100000) (by omega) (gdocs_flat D) (gdocs_flat D2) rfl rfl h1
 have q1:(0+(docsG D).length) * 104<=140737488355328:=by rw [hdl];omega
 have hgl:0+(docsG D).length=D.length:=by rw [hdl];omega
 have hM:=mut_of_sfun mixedz call15 rfl (gp15_0 W KK D D2) gSn_z2
 rw [<-hl] at hM
 exact hM
omit hK
theorem gdocs_app (A B:List GDoc):docsG A++docsG B=docsG (A++B):=by unfold docsG;rw [List.map_append]
include hK
theorem gorder15 (D:List GDoc) (hD:D.length<=2 ^ 39):Pure Tryz.prog W 15 [sortA KK,.sl 7 (docsG D) []] (.sl 7 (docsG (sortS (gLt KK) D)) []):=pure_frz1 (gorder15M W KK hK D hD) (gdocs_len _).symm (gdocs_clo _)
end
end De
end Go.Ac

namespace Go.Ac
open Go Go.Proofs
set_option maxRecDepth 10000
set_option maxHeartbeats 1000000
namespace Dd
section
variable (W:World)
end
end Dd
end Go.Ac

namespace Go.Ac
open Go Go.Proofs Go.RowKit
set_option maxRecDepth 10000
set_option maxHeartbeats 1000000
namespace De
open Dd
theorem docsG_eq (D:List GDoc):docsA (D.map GDoc.doc)=docsG D:=by unfold docsA docsG;rw [List.map_map];rfl
theorem lift_docs:∀ D:List Doc,(∀ d ∈ D,GV d.v)->∃ E:List GDoc,E.map GDoc.doc=D
 | [],_=>⟨[],rfl⟩
 | ⟨i,v,.mk h l⟩::D,hD=>by
  obtain ⟨E,hE⟩:=lift_docs D fun d hd=>hD d (List.mem_cons_of_mem _ hd)
  exact ⟨⟨i,v,h,l,hD _ (List.mem_cons_self ..)⟩::E,by rw [List.map_cons,hE];rfl⟩
section
variable (W:World)
theorem large7M (v:JV) (b:Bool) (h:Pure Tryz.prog W 7 [.sl 5 [encV v] []] (bA b)):MutC Tryz.prog W 7 [.gs 100001 0 1] [(100001,.arr 25 5 [encV v] .own)] (.ret (bA b) [(100001,.arr 25 5 [encV v] .own)]):=by
 refine mut_of_pureFlat ?_ rfl (by simp [clL,clA,lk,cloL,AV.clo,encV_clo]) rfl (by simpa [clL,clA,lk] using h)
 intro p hp
 simp only [List.mem_cons,List.not_mem_nil,or_false] at hp
 subst hp
 exact ⟨by simp [hg],by show cloL [encV v]=true;simp only [cloL,encV_clo,Bool.and_self]⟩
end
end De
end Go.Ac

namespace Go.Ac
section
variable {α:Type} {lt:α->α->Bool}
theorem ins_perm (x:α):∀ l:List α,(insS lt x l).Perm (x::l)
 | []=>.refl _
 | y::l=>by
  rw [insS]
  split
  ·exact ((ins_perm x l).cons y).trans (.swap x y l)
  ·exact .refl _
theorem sort_perm:∀ l:List α,(sortS lt l).Perm l
 | []=>.refl _
 | x::l=>by
  rw [sortS]
  exact (ins_perm x _).trans ((sort_perm l).cons x)
theorem srt_eq:∀ (A B:List α),srtd lt A->srtd lt B->A.Perm B->(∀ x ∈ A,∀ y ∈ A,lt x y=false->lt y x=false->x=y)->A=B
 | [],B,_,_,hp,_=>(List.nil_perm.1 hp).symm
 | x::A,[],_,_,hp,_=>List.perm_nil.1 hp
 | x::A,y::B,hA,hB,hp,hu=>by
  have hA':=List.pairwise_cons.1 hA
  have hB':=List.pairwise_cons.1 hB
  have e:x=y:=by
   have h1:y ∈ x::A:=hp.mem_iff.2 (List.mem_cons_self ..)
   have h2:x ∈ y::B:=hp.mem_iff.1 (List.mem_cons_self ..)
   rcases List.mem_cons.1 h1 with h|h
   ·exact h.symm
   ·rcases List.mem_cons.1 h2 with h'|h'
    ·exact h'
    ·exact hu x (List.mem_cons_self ..) y h1 (hB'.1 x h') (hA'.1 y h)
  subst e
  have hp':A.Perm B:=List.Perm.cons_inv hp
  rw [srt_eq A B hA'.2 hB'.2 hp' fun a ha b hb=>hu a (List.mem_cons_of_mem _ ha) b (List.mem_cons_of_mem _ hb)]
end
end Go.Ac

