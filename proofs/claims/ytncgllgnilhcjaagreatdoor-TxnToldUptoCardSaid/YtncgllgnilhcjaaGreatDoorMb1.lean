/- What is proved: contracts of functions of this translation, walked; their plain meaning. No condition beyond those that each theorem names. -/
import Derived.Test.YtncgllgnilhcjaaGreatDoorTZq
import Derived.Test.YtncgllgnilhcjaaGreatDoorMa6
import Derived.Test.YtncgllgnilhcjaaGreatDoorProg
set_option linter.all false
namespace Go.Ac
open Go Go.Proofs
set_option maxRecDepth 10000
set_option maxHeartbeats 1000000
theorem Fb1_z1 {kp f ph σ σ'} (h:MatchK kp f ph σ σ':=by exact ⟨by rfl,(by simp only [S71,R71,tOK,List.map_cons,List.map_nil,and_true]<;>exact zt),(by simp only [S71,R71,hOK,List.map_cons,List.map_nil,and_true]<;>exact zh),(by simp only [S71,R71,liveT,List.map_cons,List.map_nil,and_true]<;>exact zv),(by simp only [S71,R71,liveH,List.map_cons,List.map_nil,and_true]<;>exact zv)⟩):MatchK kp f ph σ σ':=h
theorem Fb1_z3 {cs} (h:Holds cs:=by simp only [Holds,and_true]<;>and_intros<;>first|exact zd):Holds cs:=h
theorem Fb1_z4 {cs} (h:Holds cs:=by simp only [Holds,and_true]<;>and_intros<;>first|exact zd|exact Fb1_z1):Holds cs:=h
def S71 (s:List UInt8) (n i:Int):AS:=⟨[(0,.str s),(4,iA n),(5,iA i)],[]⟩
def R71:AS:=⟨[(2,.val (.int .i64 0)),(3,.val (.bool false))],[]⟩
theorem b71_0 (W:World) (s:List UInt8) (n i:Int) (x:UInt8):sQ W {lp:=true} 59 0 [] [0,2,3,4,5] (S71 s n i) [bt,.lg,Ans.byt (some x),bt,bt,bt,bt,bt,ee]=.ok ((.ret,{t:=[(0,.str s),(2,iA 0),(3,bA false),(4,iA n),(5,iA i)],h:=[]}),[aE 9999999],(decide ((x.toNat:Int)<48)=true)::(d4 (decide ((x.toNat:Int)<48)=true) [s[i.toNat]?=some x,0<=i,decide (i<(s.length:Int))=true])):=kr
theorem b71_1 (W:World) (s:List UInt8) (n i:Int) (x:UInt8):sQ W {lp:=true} 59 0 [] [0,2,3,4,5] (S71 s n i) [bt,.lg,Ans.byt (some x),bf,bf,bf,.lg,Ans.byt (some x),bf,bf,bt,ee]=.ok ((.ret,{t:=[(0,.str s),(2,iA 0),(3,bA false),(4,iA n),(5,iA i)],h:=[]}),[ee],(decide (57<(x.toNat:Int))=true)::(d2 (decide ((x.toNat:Int)<48)=false) ((s[i.toNat]?=some x)::(0<=i)::(d3 (decide ((x.toNat:Int)<48)=false) [s[i.toNat]?=some x,0<=i,decide (i<(s.length:Int))=true])))):=kr
theorem b71_2 (W:World) (s:List UInt8) (n i:Int) (x:UInt8):sQ W {lp:=true} 59 0 [] [0,2,3,4,5] (S71 s n i) [bt,.lg,Ans.byt (some x),bf,bf,bf,.lg,Ans.byt (some x),bf,bf,bf,.lg,Ans.byt (some x),ee]=.ok ((.normal,{t:=[(0,.str s),(4,iA (IntKind.i64.wrap (IntKind.i64.wrap (10 * n)+IntKind.i64.wrap (IntKind.u8.wrap ((x.toNat:Int) - 48))))),(5,iA (IntKind.i64.wrap (i+1)))],h:=[]}),[ee],(s[i.toNat]?=some x)::(0<=i)::(decide (57<(x.toNat:Int))=false)::(d2 (decide ((x.toNat:Int)<48)=false) ((s[i.toNat]?=some x)::(0<=i)::(d3 (decide ((x.toNat:Int)<48)=false) [s[i.toNat]?=some x,0<=i,decide (i<(s.length:Int))=true])))):=kr
theorem b71_3 (W:World) (s:List UInt8) (n i:Int):sQ W {lp:=true} 59 0 [] [0,2,3,4,5] (S71 s n i) [bf,ee]=.ok ((.exit 0,{t:=[(0,.str s),(4,iA n),(5,iA i)],h:=[]}),[ee],[decide (i<(s.length:Int))=false]):=kr
theorem p71_0 (W:World) (s:List UInt8):sfun Tryz.prog W {lp:=true} 1000 5 59 [.str s] [] 100000 [bt,bt,bt,bt,ee] []=.ok (.ret (.tup [iA 0,bA false]) [],[aE 9999993],d4 (decide ((s.length:Int)<1)=true) []):=kr
theorem p71_1 (W:World) (s:List UInt8):sfun Tryz.prog W {lp:=true} 1000 5 59 [.str s] [] 100000 [bf,bf,bf,bf,bt,bt,bt,bt,bt,bt,ee] []=.ok (.ret (.tup [iA 0,bA false]) [],[aE 9999999],d6 (decide (9<(s.length:Int))=true) (d4 (decide ((s.length:Int)<1)=false) [])):=kr
theorem p71_2 (W:World) (s:List UInt8) (x:UInt8):sfun Tryz.prog W {lp:=true} 1000 5 59 [.str s] [] 100000 [bf,bf,bf,bf,bf,bf,bf,bf,bt,bt,aE 1,Ans.byt (some x),bt,bf,bt,bf,bt,ee] []=.ok (.ret (.tup [iA 0,bA false]) [],[ee],(decide ((x.toNat:Int)=48)=true)::(decide (9<(s.length:Int))=false)::(decide (1<(s.length:Int))=true)::(decide (9<(s.length:Int))=false)::(decide (1<(s.length:Int))=true)::(s[0]?=some x)::(d2 (decide (1<(s.length:Int))=true) (d4 (decide (9<(s.length:Int))=false) (d4 (decide ((s.length:Int)<1)=false) [])))):=kr
theorem p71_3 (W:World) (s:List UInt8) (x:UInt8) (n:Int):sfun Tryz.prog W {lp:=true} 1000 5 59 [.str s] [] 100000 [bf,bf,bf,bf,bf,bf,bf,bf,bt,bt,aE 1,Ans.byt (some x),bt,bf,bt,bf,bf,ee,.loopM [] [] (S71 s 0 0) (.exit 0) (S71 s n (s.length:Int)),ee] []=.ok (.ret (.tup [iA n,bA true]) [],[ee],LZ W [] 59 0 (S71 s 0 0) (.exit 0) (S71 s n (s.length:Int))::MatchK [] [] [] {t:=[(0,.str s),(4,iA 0),(5,iA 0)],h:=[]} (S71 s 0 0)::(decide ((x.toNat:Int)=48)=false)::(decide (9<(s.length:Int))=false)::(decide (1<(s.length:Int))=true)::(decide (9<(s.length:Int))=false)::(decide (1<(s.length:Int))=true)::(s[0]?=some x)::(d2 (decide (1<(s.length:Int))=true) (d4 (decide (9<(s.length:Int))=false) (d4 (decide ((s.length:Int)<1)=false) [])))):=kr
theorem p71_4 (W:World) (s:List UInt8) (n:Int):sfun Tryz.prog W {lp:=true} 1000 5 59 [.str s] [] 100000 [bf,bf,bf,bf,bf,bf,bf,bf,bf,bf,bf,bf,bf,bf,ee,.loopM [] [] (S71 s 0 0) (.exit 0) (S71 s n (s.length:Int)),ee] []=.ok (.ret (.tup [iA n,bA true]) [],[ee],LZ W [] 59 0 (S71 s 0 0) (.exit 0) (S71 s n (s.length:Int))::MatchK [] [] [] {t:=[(0,.str s),(4,iA 0),(5,iA 0)],h:=[]} (S71 s 0 0)::(decide (9<(s.length:Int))=false)::(decide (1<(s.length:Int))=false)::(decide (9<(s.length:Int))=false)::(d3 (decide (1<(s.length:Int))=false) (d4 (decide (9<(s.length:Int))=false) (d4 (decide ((s.length:Int)<1)=false) [])))):=kr
theorem q71_3 (W:World) (s:List UInt8) (x:UInt8):sfun Tryz.prog W {lp:=true} 1000 5 59 [.str s] [] 100000 [bf,bf,bf,bf,bf,bf,bf,bf,bt,bt,aE 1,Ans.byt (some x),bt,bf,bt,bf,bf,ee,.loopM [] [] (S71 s 0 0) .ret R71,ee] []=.ok (.ret (.tup [iA 0,bA false]) [],[ee],LZ W [] 59 0 (S71 s 0 0) .ret R71::MatchK [] [] [] {t:=[(0,.str s),(4,iA 0),(5,iA 0)],h:=[]} (S71 s 0 0)::(decide ((x.toNat:Int)=48)=false)::(decide (9<(s.length:Int))=false)::(decide (1<(s.length:Int))=true)::(decide (9<(s.length:Int))=false)::(decide (1<(s.length:Int))=true)::(s[0]?=some x)::(d2 (decide (1<(s.length:Int))=true) (d4 (decide (9<(s.length:Int))=false) (d4 (decide ((s.length:Int)<1)=false) [])))):=kr
theorem q71_4 (W:World) (s:List UInt8):sfun Tryz.prog W {lp:=true} 1000 5 59 [.str s] [] 100000 [bf,bf,bf,bf,bf,bf,bf,bf,bf,bf,bf,bf,bf,bf,ee,.loopM [] [] (S71 s 0 0) .ret R71,ee] []=.ok (.ret (.tup [iA 0,bA false]) [],[ee],LZ W [] 59 0 (S71 s 0 0) .ret R71::MatchK [] [] [] {t:=[(0,.str s),(4,iA 0),(5,iA 0)],h:=[]} (S71 s 0 0)::(decide (9<(s.length:Int))=false)::(decide (1<(s.length:Int))=false)::(decide (9<(s.length:Int))=false)::(d3 (decide (1<(s.length:Int))=false) (d4 (decide (9<(s.length:Int))=false) (d4 (decide ((s.length:Int)<1)=false) [])))):=kr
theorem mixedz:Tryz.prog.follows .mixedOrders=true:=kr
theorem call71:callable Tryz.prog 59=true:=kr
section
variable (W:World) (s:List UInt8)
theorem loop71 (hl:s.length<=9) (hd:s.all dig=true):∀ i:Nat,i<=s.length->LoopC Tryz.prog W [] (nslots Tryz.prog 59) (loopOf Tryz.prog 59 0) (S71 s (numL (s.take i) 0) i) (.exit 0) (S71 s (numL s 0) s.length):=by
 refine loopC_inv (fun i:Nat=>S71 s (numL (s.take i) 0) i) (fun i=>i<=s.length) (fun i=>s.length - i) (by simp) ?_
 intro i h1
 by_cases hi:i<s.length
 ·obtain ⟨x,hx⟩:=getOf hi
  left
  have hdx:dig x=true:=List.all_eq_true.1 hd x (List.mem_of_getElem? hx)
  have hdi:(s.take i).all dig=true:=List.all_eq_true.2 fun y hy=>List.all_eq_true.1 hd y (List.mem_of_mem_take hy)
  simp only [dig,Bool.and_eq_true,decide_eq_true_eq] at hdx
  have hn:=num_step hx (by omega) hdi (by omega) (by omega)
  exact ⟨i+1,by omega,by omega,body_of_sbodyK mixedz (b71_2 W s _ i x) Fb1_z3 [] [] Fb1_z1⟩
 ·right
  have hil:i=s.length:=by omega
  subst hil
  rw [List.take_length]
  exact body_of_sbodyK mixedz (b71_3 W s _ s.length) Fb1_z3 [] [] Fb1_z1
theorem loopR71 (hd:s.all dig=false) (hl:s.length<=9):∀ i:Nat,(i<=s.length/\(s.take i).all dig=true)->LoopC Tryz.prog W [] (nslots Tryz.prog 59) (loopOf Tryz.prog 59 0) (S71 s (numL (s.take i) 0) i) .ret R71:=by
 refine loopC_inv (fun i:Nat=>S71 s (numL (s.take i) 0) i) (fun i=>i<=s.length/\(s.take i).all dig=true) (fun i=>s.length - i) (by simp) ?_
 rintro i ⟨h1,h2⟩
 by_cases hi:i<s.length
 ·obtain ⟨x,hx⟩:=getOf hi
  by_cases hlo:(x.toNat:Int)<48
  ·exact .inr (body_of_sbodyK mixedz (b71_0 W s _ i x) Fb1_z3 [] [] Fb1_z1)
  by_cases hhi:57<(x.toNat:Int)
  ·exact .inr (body_of_sbodyK mixedz (b71_1 W s _ i x) Fb1_z3 [] [] Fb1_z1)
  left
  have hn:=num_step hx (by omega) h2 hlo hhi
  exact ⟨i+1,⟨by omega,all_take hx h2 (dig_in hlo hhi)⟩,by omega,body_of_sbodyK mixedz (b71_2 W s _ i x) Fb1_z3 [] [] Fb1_z1⟩
 ·exfalso
  rw [List.take_of_length_le (by omega),hd] at h2;cases h2
theorem index71:Pure Tryz.prog W 59 [.str s] (idxA s):=by
 have go:∀ {r},MutC Tryz.prog W 59 [.str s] [] (.ret r [])->r.clo=true->r=idxA s->Pure Tryz.prog W 59 [.str s] (idxA s):=fun h hc e=>by subst e;exact pure_of_mut hc h
 by_cases h1:(s.length:Int)<1
 ·exact go (mut_of_sfun mixedz call71 rfl (p71_0 W s) Fb1_z3) rfl (idxA_bad (idxOk_short h1))
 by_cases h2:9<(s.length:Int)
 ·exact go (mut_of_sfun mixedz call71 rfl (p71_1 W s) Fb1_z3) rfl (idxA_bad (idxOk_long h2))
 obtain ⟨x,hx⟩:=getOf (l:=s) (i:=0) (by omega)
 have hx0:(s.headD 0)=x:=by cases s with
  | nil=>simp at hx
  | cons a l=>simpa using hx
 by_cases h3:1<(s.length:Int)/\(x.toNat:Int)=48
 ·obtain ⟨h3,h4⟩:=h3
  exact go (mut_of_sfun mixedz call71 rfl (p71_2 W s x) Fb1_z3) rfl (idxA_bad (idxOk_zero h3 (by rw [hx0];exact h4)))
 have h3':¬ 1<(s.length:Int)\/¬ ((s.headD 0).toNat:Int)=48:=by rw [hx0];omega
 by_cases hd:s.all dig=true
 ·have hlp:=loop71 W s (by omega) hd 0 (by omega)
  rw [List.take_zero] at hlp
  have hg:=idxOk_good h1 h2 h3' hd
  by_cases h5:1<(s.length:Int)
  ·exact go (mut_of_sfun mixedz call71 rfl (p71_3 W s x (numL s 0)) Fb1_z4) rfl (idxA_good hg rfl)
  ·exact go (mut_of_sfun mixedz call71 rfl (p71_4 W s (numL s 0)) Fb1_z4) rfl (idxA_good hg rfl)
 ·have hd':s.all dig=false:=by simpa using hd
  have hlp:=loopR71 W s hd' (by omega) 0 ⟨by omega,by simp⟩
  rw [List.take_zero] at hlp
  obtain ⟨y,hy,hyd⟩:=List.all_eq_false.1 hd'
  obtain ⟨k,hk⟩:=List.getElem?_of_mem hy
  have hb:=idxOk_dig hk (by simpa using hyd)
  by_cases h5:1<(s.length:Int)
  ·exact go (mut_of_sfun mixedz call71 rfl (q71_3 W s x) Fb1_z4) rfl (idxA_bad hb)
  ·exact go (mut_of_sfun mixedz call71 rfl (q71_4 W s) Fb1_z4) rfl (idxA_bad hb)
end
end Go.Ac

namespace Go.Ac
open Go Go.Proofs
set_option maxRecDepth 10000
set_option maxHeartbeats 1000000
theorem Fb2_z1 {kp f ph σ σ'} (h:MatchK kp f ph σ σ':=by exact ⟨by rfl,(by simp only [S68,R68,S164,R164,S72,tOK,List.map_cons,List.map_nil,and_true]<;>exact zt),(by simp only [S68,R68,S164,R164,S72,hOK,List.map_cons,List.map_nil,and_true]<;>exact zh),(by simp only [S68,R68,S164,R164,S72,liveT,List.map_cons,List.map_nil,and_true]<;>exact zv),(by simp only [S68,R68,S164,R164,S72,liveH,List.map_cons,List.map_nil,and_true]<;>exact zv)⟩):MatchK kp f ph σ σ':=h
theorem Fb2_z4 {cs} (h:Holds cs:=by simp only [Holds,and_true]<;>and_intros<;>first|exact zd|(simp only [Bool.not_eq_true',decide_eq_false_iff_not,Bool.not_eq_false',decide_eq_true_eq,ixbB_eq Tryz.prog,List.length_map,encVs_len,List.length_cons];first|assumption|omega;done)):Holds cs:=h
theorem Fb2_z5 {cs} (h:Holds cs:=by simp only [Holds,and_true]<;>and_intros<;>first|exact zd|(simp only [Bool.not_eq_true',decide_eq_false_iff_not,Bool.not_eq_false',decide_eq_true_eq,ixbB_eq Tryz.prog,List.length_map,encVs_len,List.length_cons];first|assumption|omega;done)|exact Fb2_z1):Holds cs:=h
def S68 (s:List UInt8) (i:Int):AS:=⟨[(0,.str s),(3,iA i)],[]⟩
def R68 (b:Bool):AS:=⟨[(2,.val (.bool b))],[]⟩
def S164 (h:JH) (l:List JV) (s:List UInt8) (m i:Int):AS:=⟨[(1,.str s),(2,.gp 100000 0),(7,iA m),(8,iA i)],[(100000,.box (encV (.mk h l)) .own)]⟩
def R164 (i:Int):AS:=⟨[(4,iA i)],[]⟩
def S72 (h:JH) (l:List JV) (s:List UInt8) (i:Int):AS:=⟨[(1,.str s),(2,.gp 100000 0),(5,iA i)],[(100000,.box (encV (.mk h l)) .own)]⟩
theorem b68_0 (W:World) (s:List UInt8) (i:Int) (x:UInt8):sQ W {lp:=true} 77 0 [] [0,2,3,4] (S68 s i) [bt,.lg,Ans.byt (some x),bt,ee]=.ok ((.ret,{t:=[(0,.str s),(2,bA false),(3,iA i),(4,iA i)],h:=[]}),[ee],[decide ((x.toNat:Int)=46)=true,s[i.toNat]?=some x,0<=i,decide (i<(s.length:Int))=true]):=kr
theorem b68_1 (W:World) (s:List UInt8) (i:Int) (x:UInt8):sQ W {lp:=true} 77 0 [] [0,2,3] (S68 s i) [bt,.lg,Ans.byt (some x),bf,ee]=.ok ((.normal,{t:=[(0,.str s),(3,iA (IntKind.i64.wrap (i+1)))],h:=[]}),[ee],[decide ((x.toNat:Int)=46)=false,s[i.toNat]?=some x,0<=i,decide (i<(s.length:Int))=true]):=kr
theorem b68_2 (W:World) (s:List UInt8) (i:Int):sQ W {lp:=true} 77 0 [] [0,2,3,4] (S68 s i) [bf,ee]=.ok ((.exit 0,{t:=[(0,.str s),(3,iA i),(4,iA i)],h:=[]}),[ee],[decide (i<(s.length:Int))=false]):=kr
theorem p68_0 (W:World) (s:List UInt8) (x:UInt8):sF W {lp:=true} 77 [.str s] [] 100000 [ee,.loopM [] [] (S68 s 0) (.exit 0) (S68 s (s.length:Int)),bt,bt,bt,bt,bt,bt,aE 1,Ans.byt (some x),bt,bt,ee] []=.ok (.ret (bA (!decide ((x.toNat:Int)=36))) [],[ee],d2 (decide ((s.length:Int)<=64)=true) ((s[0]?=some x)::(d2 (decide ((s.length:Int)<=64)=true) (d4 (decide (1<=(s.length:Int))=true) [LZ W [] 77 0 (S68 s 0) (.exit 0) (S68 s (s.length:Int)),MatchK [] [] [] {t:=[(0,.str s),(3,iA 0)],h:=[]} (S68 s 0)])))):=kr
theorem p68_1 (W:World) (s:List UInt8):sF W {lp:=true} 77 [.str s] [] 100000 [ee,.loopM [] [] (S68 s 0) (.exit 0) (S68 s (s.length:Int)),bt,bt,bt,bt,bf,bf,bf,bf,ee] []=.ok (.ret (bA false) [],[ee],d4 (decide ((s.length:Int)<=64)=false) (d4 (decide (1<=(s.length:Int))=true) [LZ W [] 77 0 (S68 s 0) (.exit 0) (S68 s (s.length:Int)),MatchK [] [] [] {t:=[(0,.str s),(3,iA 0)],h:=[]} (S68 s 0)])):=kr
theorem p68_2 (W:World) (s:List UInt8):sF W {lp:=true} 77 [.str s] [] 100000 [ee,.loopM [] [] (S68 s 0) (.exit 0) (S68 s (s.length:Int)),bf,bf,bf,bf,ee] []=.ok (.ret (bA false) [],[aE 9999996],d4 (decide (1<=(s.length:Int))=false) [LZ W [] 77 0 (S68 s 0) (.exit 0) (S68 s (s.length:Int)),MatchK [] [] [] {t:=[(0,.str s),(3,iA 0)],h:=[]} (S68 s 0)]):=kr
theorem q68_0 (W:World) (s:List UInt8):sF W {lp:=true} 77 [.str s] [] 100000 [ee,.loopM [] [] (S68 s 0) .ret (R68 false),ee] []=.ok (.ret (bA false) [],[ee],[LZ W [] 77 0 (S68 s 0) .ret (R68 false),MatchK [] [] [] {t:=[(0,.str s),(3,iA 0)],h:=[]} (S68 s 0)]):=kr
theorem p116_0 (W:World) (s:List UInt8):sF W {lp:=true} 94 [.str s] [] 100000 [bt,bt,bt,bt,bt,bt,aE 7,bt,bt,bt,ee] []=.ok (.ret (bA false) [],[aE 9999996],d2 (decide ((s.length:Int)<=64)=true) ((decide ([46]=s)=true)::(d2 (decide ((s.length:Int)<=64)=true) (d4 (decide (1<=(s.length:Int))=true) [])))):=kr
theorem p116_1 (W:World) (s:List UInt8) (x:UInt8):sF W {lp:=true} 94 [.str s] [] 100000 [bt,bt,bt,bt,bt,bt,aE 7,bf,aE 4,bt,bt,bt,bt,aE 1,Ans.byt (some x),bt,bt,ee] []=.ok (.ret (bA (!decide ((x.toNat:Int)=36))) [],[ee],d2 ((!decide (0<=ixbB s (UInt8.ofNat 46)))=true) ((s[0]?=some x)::(d2 ((!decide (0<=ixbB s (UInt8.ofNat 46)))=true) (d2 (decide ((s.length:Int)<=64)=true) ((decide ([46]=s)=false)::(d2 (decide ((s.length:Int)<=64)=true) (d4 (decide (1<=(s.length:Int))=true) []))))))):=kr
theorem p116_2 (W:World) (s:List UInt8):sF W {lp:=true} 94 [.str s] [] 100000 [bt,bt,bt,bt,bt,bt,aE 7,bf,aE 4,bt,bt,bf,bf,bf,bf,ee] []=.ok (.ret (bA false) [],[ee],d4 ((!decide (0<=ixbB s (UInt8.ofNat 46)))=false) (d2 (decide ((s.length:Int)<=64)=true) ((decide ([46]=s)=false)::(d2 (decide ((s.length:Int)<=64)=true) (d4 (decide (1<=(s.length:Int))=true) []))))):=kr
theorem p116_3 (W:World) (s:List UInt8):sF W {lp:=true} 94 [.str s] [] 100000 [bt,bt,bt,bt,bf,bf,bf,bf,ee] []=.ok (.ret (bA false) [],[aE 9999996],d4 (decide ((s.length:Int)<=64)=false) (d4 (decide (1<=(s.length:Int))=true) [])):=kr
theorem p116_4 (W:World) (s:List UInt8):sF W {lp:=true} 94 [.str s] [] 100000 [bf,bf,bf,bf,ee] []=.ok (.ret (bA false) [],[aE 9999992],d4 (decide (1<=(s.length:Int))=false) []):=kr
theorem call116:callable Tryz.prog 94=true:=kr
theorem call68:callable Tryz.prog 77=true:=kr
theorem goB {W:World} {f:FuncId} {As:List AV} {r r':AV} (e:r=r') (hc:r.clo=true) (h:MutC Tryz.prog W f As [] (.ret r [])):Pure Tryz.prog W f As r':=by subst e;exact pure_of_mut hc h
theorem segment116 (W:World) (s:List UInt8):Pure Tryz.prog W 94 [.str s] (bA (segB s)):=by
 cases s with
 | nil=>exact goB rfl rfl (mut_of_sfun mixedz call116 rfl (p116_4 W []) Fb2_z4)
 | cons c t =>
  by_cases h1:((c::t).length:Int)<=64
  case neg=>exact goB (by rw [segB_cons,decide_eq_false (by simp only [List.length_cons] at h1;omega)]<;>rfl) rfl (mut_of_sfun mixedz call116 rfl (p116_3 W (c::t)) Fb2_z4)
  by_cases h2:[46]=c::t
  ·rw [<-h2];exact goB rfl rfl (mut_of_sfun mixedz call116 rfl (p116_0 W [46]) Fb2_z4)
  have h1':t.length+1<=64:=by simp only [List.length_cons] at h1;omega
  by_cases h3:0<=ixbB (c::t) (UInt8.ofNat 46)
  ·have h3':¬ Lib.indexByte (c::t) 46<0:=by rw [ixbB_eq Tryz.prog] at h3;exact Int.not_lt.2 h3
   exact goB (by rw [segB_cons,decide_eq_true h1',decide_eq_false h3']<;>rfl) rfl (mut_of_sfun mixedz call116 rfl (p116_2 W (c::t)) (by simp only [Holds,and_true];and_intros<;>first|exact decide_eq_true (by simp only [List.length_cons];omega)|exact decide_eq_true h1|exact decide_eq_false h2|(rw [decide_eq_true h3];rfl)))
  ·have h3':Lib.indexByte (c::t) 46<0:=by rw [ixbB_eq Tryz.prog] at h3;exact Int.not_le.1 h3
   exact goB (by rw [segB_cons,decide_eq_true h1',decide_eq_true h3']<;>rfl) rfl (mut_of_sfun mixedz call116 rfl (p116_1 W (c::t) c) (by simp only [Holds,and_true];and_intros<;>first|exact decide_eq_true (by simp only [List.length_cons];omega)|exact decide_eq_true h1|exact decide_eq_false h2|(rw [decide_eq_false h3];rfl)|rfl))
section
variable (W:World) (s:List UInt8)
theorem loop68 (hl:s.length<=2 ^ 50) (hd:46 ∉ s):∀ i:Nat,i<=s.length->LoopC Tryz.prog W [] (nslots Tryz.prog 77) (loopOf Tryz.prog 77 0) (S68 s i) (.exit 0) (S68 s s.length):=by
 refine loopC_inv (fun i:Nat=>S68 s i) (fun i=>i<=s.length) (fun i=>s.length - i) (by simp) ?_
 intro i h1
 by_cases hi:i<s.length
 ·obtain ⟨x,hx⟩:=getOf hi
  left
  have hne:¬ (x.toNat:Int)=46:=fun e=>hd ((u8_eq x 46 46 rfl).1 e ▸ List.mem_of_getElem? hx)
  exact ⟨i+1,by omega,by omega,body_of_sbodyK mixedz (b68_1 W s i x) Fb2_z4 [] [] Fb2_z1⟩
 ·right
  have hil:i=s.length:=by omega
  subst hil
  exact body_of_sbodyK mixedz (b68_2 W s s.length) Fb2_z4 [] [] Fb2_z1
theorem loopR68 (hl:s.length<=2 ^ 50) (hd:46 ∈ s):∀ i:Nat,(i<=s.length/\∀ k,k<i->s[k]? ≠ some 46)->LoopC Tryz.prog W [] (nslots Tryz.prog 77) (loopOf Tryz.prog 77 0) (S68 s i) .ret (R68 false):=by
 refine loopC_inv (fun i:Nat=>S68 s i) (fun i=>i<=s.length/\∀ k,k<i->s[k]? ≠ some 46) (fun i=>s.length - i) (by simp) ?_
 rintro i ⟨h1,h2⟩
 by_cases hi:i<s.length
 ·obtain ⟨x,hx⟩:=getOf hi
  by_cases he:(x.toNat:Int)=46
  ·exact .inr (body_of_sbodyK mixedz (b68_0 W s i x) Fb2_z4 [] [] Fb2_z1)
  left
  exact ⟨i+1,⟨by omega,_root_.Go.Ac.upto_succ h2 (by rw [hx];intro e;simp only [Option.some.injEq] at e;exact he ((u8_eq x 46 46 rfl).2 e))⟩,by omega,body_of_sbodyK mixedz (b68_1 W s i x) Fb2_z4 [] [] Fb2_z1⟩
 ·exfalso
  obtain ⟨k,hk⟩:=List.getElem?_of_mem hd
  exact h2 k (by have:=(List.getElem?_eq_some_iff.1 hk).1;omega) hk
theorem segment68 (hl:s.length<=2 ^ 50):Pure Tryz.prog W 77 [.str s] (bA (segB s)):=by
 by_cases hd:46 ∈ s
 ·have hlp:=loopR68 W s hl hd 0 ⟨by omega,by intro k hk;omega⟩
  exact goB (by simp [segB,hd,bA]) rfl (mut_of_sfun mixedz call68 rfl (q68_0 W s) Fb2_z5)
 have hlp:=loop68 W s hl hd 0 (by omega)
 cases s with
 | nil=>exact goB rfl rfl (mut_of_sfun mixedz call68 rfl (p68_2 W []) Fb2_z5)
 | cons c t =>
  have hneg:Lib.indexByte (c::t) 46<0:=(indexByte_neg 46 (c::t)).2 hd
  by_cases h1:((c::t).length:Int)<=64
  case neg=>exact goB (by rw [segB_cons,decide_eq_false (by simp only [List.length_cons] at h1;omega)]<;>rfl) rfl (mut_of_sfun mixedz call68 rfl (p68_1 W (c::t)) Fb2_z5)
  have h1':t.length+1<=64:=by simp only [List.length_cons] at h1;omega
  exact goB (by rw [segB_cons,decide_eq_true h1',decide_eq_true hneg]<;>rfl) rfl (mut_of_sfun mixedz call68 rfl (p68_0 W (c::t) c) Fb2_z5)
end
section
variable (W:World) (h:JH) (l:List JV) (s:List UInt8)
end
end Go.Ac

namespace Go.Ac
open Go Go.Proofs
set_option maxRecDepth 10000
set_option maxHeartbeats 1000000
theorem Fb3_z1 {kp f ph σ σ'} (h:MatchK kp f ph σ σ':=by exact ⟨by rfl,(by simp only [S162,S91,R91,tOK,List.map_cons,List.map_nil,and_true]<;>exact zt),(by simp only [S162,S91,R91,hOK,List.map_cons,List.map_nil,and_true]<;>exact zh),(by simp only [S162,S91,R91,liveT,List.map_cons,List.map_nil,and_true]<;>exact zv),(by simp only [S162,S91,R91,liveH,List.map_cons,List.map_nil,and_true]<;>exact zv)⟩):MatchK kp f ph σ σ':=h
theorem Fb3_z4 {cs} (h:Holds cs:=by simp only [Holds,and_true]<;>and_intros<;>first|exact zd|(simp only [Bool.not_eq_true',decide_eq_false_iff_not,Bool.not_eq_false',decide_eq_true_eq,List.length_map,encVs_len,List.length_cons,bytesA];first|assumption|omega;done)):Holds cs:=h
theorem Fb3_z5 {cs} (h:Holds cs:=by simp only [Holds,and_true]<;>and_intros<;>first|exact zd|(simp only [Bool.not_eq_true',decide_eq_false_iff_not,Bool.not_eq_false',decide_eq_true_eq,List.length_map,encVs_len,List.length_cons,bytesA];first|assumption|omega;done)|exact Fb3_z1):Holds cs:=h
def S162 (s:List UInt8) (n i:Int):AS:=⟨[(5,.str s),(6,iA n),(47,.sl 1 (bytesA s) []),(48,iA (bytesA s).length),(49,iA i)],[]⟩
def S91 (s:List UInt8) (i:Int):AS:=⟨[(0,.str s),(25,iA s.length),(26,iA i)],[]⟩
def R91:AS:=⟨[(2,.val (.int .i64 0)),(3,.val (.bool false))],[]⟩
theorem b162_0 (W:World) (s:List UInt8) (x:UInt8) (n i:Int):sQ W {lp:=true} 137 0 [] [5,6,47,48,49] (S162 s n i) [bt,.lg,oS (.val (Value.int IntKind.u8 (x.toNat:Int))),bf,ee]=.ok ((.normal,{t:=[(5,.str s),(6,iA (IntKind.i64.wrap (IntKind.i64.wrap (n * 10)+IntKind.i64.wrap (IntKind.u8.wrap ((x.toNat:Int) - 48))))),(47,sL 1 (bytesA s)),(48,iA (↑(bytesA s).length:Int)),(49,iA (IntKind.i64.wrap (i+1)))],h:=[]}),[ee],[decide (9<IntKind.u8.wrap ((x.toNat:Int) - 48))=false,(bytesA s)[i.toNat]?=some (AV.val (Value.int IntKind.u8 (x.toNat:Int))),0<=i,decide (i<(↑(bytesA s).length:Int))=true]):=kr
theorem b162_1 (W:World) (s:List UInt8) (n i:Int):sbodyM Tryz.prog W {lp:=true} 137 0 [] (S162 s n i) [bf,ee]=.ok ((.exit 0,{t:=[(5,.str s),(6,iA n),(47,sL 1 (bytesA s)),(48,iA (↑(bytesA s).length:Int)),(49,iA i),(50,bA (decide (i<(↑(bytesA s).length:Int))))],h:=[]}),[ee],[decide (i<(↑(bytesA s).length:Int))=false]):=kr
theorem p162_0 (W:World) (s:List UInt8) (x:UInt8) (n:Int):sF W {lp:=true} 137 [.str s] [] 100000 [aE 9,bt,bt,aE 1,bt,aE 3,bt,aE 1,Ans.byt (some x),bf,bf,aE 1,Ans.byt (some x),bf,bf,bf,.lg,ee,.loopM [] [] (S162 s 0 0) (.exit 0) (S162 s n (s.length:Int)),aE 1,Ans.byt (some x),bf,ee] []=.ok (.ret (.tup [iA n,.val Value.nilIface]) [],[ee],(decide ((x.toNat:Int)=45)=false)::(s[0]?=some x)::LZ W [] 137 0 (S162 s 0 0) (.exit 0) (S162 s n (s.length:Int))::MatchK [] [] [] {t:=[(5,.str s),(6,iA 0),(47,sL 1 (bytesA s)),(48,iA (↑(bytesA s).length:Int)),(49,iA 0)],h:=[]} (S162 s 0 0)::(s.length<=9223372036854775807)::(decide ((x.toNat:Int)=43)=false)::(d2 (decide ((x.toNat:Int)=45)=false) ((s[0]?=some x)::(d2 (decide ((x.toNat:Int)=45)=false) ((s[0]?=some x)::(decide ((s.length:Int)<19)=true)::(d3 (decide (0<(s.length:Int))=true) [])))))):=kr
theorem p135_0 (W:World) (s:List UInt8) (n:Int):sF W {lp:=true,tl:=[137]} 96 [.str s] [] 100000 [ee,cR (.tup [iA n,.val Value.nilIface]) [],ee] []=.ok (.ret (.tup [iA n,.val Value.nilIface]) [],[aE 9999999],[MZ W 137 [.str s] [] (.ret (.tup [iA n,.val Value.nilIface]) [])]):=kr
theorem b91_0 (W:World) (s:List UInt8) (x:UInt8) (i:Int):sQ W {lp:=true} 74 0 [] [0,2,3,25,26] (S91 s i) [bt,.lg,Ans.byt (some x),bt,bt,bt,bt,bt,ee]=.ok ((.ret,{t:=[(0,.str s),(2,iA 0),(3,bA false),(25,iA (s.length:Int)),(26,iA i)],h:=[]}),[aE 9999999],(decide ((x.toNat:Int)<48)=true)::(d4 (decide ((x.toNat:Int)<48)=true) [s[i.toNat]?=some x,0<=i,decide (i<(s.length:Int))=true])):=kr
theorem b91_1 (W:World) (s:List UInt8) (x:UInt8) (i:Int):sQ W {lp:=true} 74 0 [] [0,2,3,25,26] (S91 s i) [bt,.lg,Ans.byt (some x),bf,bf,bf,.lg,Ans.byt (some x),bf,bf,bt,ee]=.ok ((.ret,{t:=[(0,.str s),(2,iA 0),(3,bA false),(25,iA (s.length:Int)),(26,iA i)],h:=[]}),[ee],(decide (57<(x.toNat:Int))=true)::(d2 (decide ((x.toNat:Int)<48)=false) ((s[i.toNat]?=some x)::(0<=i)::(d3 (decide ((x.toNat:Int)<48)=false) [s[i.toNat]?=some x,0<=i,decide (i<(s.length:Int))=true])))):=kr
theorem b91_2 (W:World) (s:List UInt8) (x:UInt8) (i:Int):sQ W {lp:=true} 74 0 [] [0,2,3,25,26] (S91 s i) [bt,.lg,Ans.byt (some x),bf,bf,bf,.lg,Ans.byt (some x),bf,bf,bf,ee]=.ok ((.normal,{t:=[(0,.str s),(25,iA (s.length:Int)),(26,iA (IntKind.i64.wrap (i+1)))],h:=[]}),[ee],(decide (57<(x.toNat:Int))=false)::(d2 (decide ((x.toNat:Int)<48)=false) ((s[i.toNat]?=some x)::(0<=i)::(d3 (decide ((x.toNat:Int)<48)=false) [s[i.toNat]?=some x,0<=i,decide (i<(s.length:Int))=true])))):=kr
theorem b91_3 (W:World) (s:List UInt8) (i:Int):sQ W {lp:=true} 74 0 [] [0,2,3,25,26] (S91 s i) [bf,ee]=.ok ((.exit 0,{t:=[(0,.str s),(25,iA (s.length:Int)),(26,iA i)],h:=[]}),[ee],[decide (i<(s.length:Int))=false]):=kr
theorem p91_0 (W:World) (s:List UInt8):sF W {lp:=true,tl:=[96]} 74 [.str s] [] 100000 [bt,bt,bt,bt,ee] []=.ok (.ret (.tup [iA 0,bA false]) [],[aE 9999993],d4 (decide ((s.length:Int)<1)=true) []):=kr
theorem p91_1 (W:World) (s:List UInt8):sF W {lp:=true,tl:=[96]} 74 [.str s] [] 100000 [bf,bf,bf,bf,bt,bt,bt,bt,bt,bt,ee] []=.ok (.ret (.tup [iA 0,bA false]) [],[aE 9999999],d6 (decide (9<(s.length:Int))=true) (d4 (decide ((s.length:Int)<1)=false) [])):=kr
theorem p91_2 (W:World) (s:List UInt8) (x:UInt8):sF W {lp:=true,tl:=[96]} 74 [.str s] [] 100000 [bf,bf,bf,bf,bf,bf,aE 1,Ans.byt (some x),bf,bf,bt,bt,bf,bt,bf,bt,ee] []=.ok (.ret (.tup [iA 0,bA false]) [],[ee],((!decide (s=[48]))=true)::(decide (9<(s.length:Int))=false)::(decide ((x.toNat:Int)=48)=true)::(decide (9<(s.length:Int))=false)::(d2 (decide ((x.toNat:Int)=48)=true) (d2 (decide (9<(s.length:Int))=false) ((s[0]?=some x)::(d2 (decide (9<(s.length:Int))=false) (d4 (decide ((s.length:Int)<1)=false) [])))))):=kr
theorem p91_3 (W:World) (s:List UInt8) (x:UInt8) (n:Int):sF W {lp:=true,tl:=[96]} 74 [.str s] [] 100000 [bf,bf,bf,bf,bf,bf,aE 1,Ans.byt (some x),bf,bf,bt,bt,bf,bt,bf,bf,ee,.loopM [] [] (S91 s 0) (.exit 0) (S91 s (s.length:Int)),ee,cR (.tup [iA n,.val Value.nilIface]) [],ee] []=.ok (.ret (.tup [iA n,bA true]) [],[ee],MZ W 96 [.str s] [] (.ret (.tup [iA n,.val Value.nilIface]) [])::LZ W [] 74 0 (S91 s 0) (.exit 0) (S91 s (s.length:Int))::MatchK [] [] [] {t:=[(0,.str s),(25,iA (s.length:Int)),(26,iA 0)],h:=[]} (S91 s 0)::((!decide (s=[48]))=false)::(decide (9<(s.length:Int))=false)::(decide ((x.toNat:Int)=48)=true)::(decide (9<(s.length:Int))=false)::(d2 (decide ((x.toNat:Int)=48)=true) (d2 (decide (9<(s.length:Int))=false) ((s[0]?=some x)::(d2 (decide (9<(s.length:Int))=false) (d4 (decide ((s.length:Int)<1)=false) [])))))):=kr
theorem p91_4 (W:World) (s:List UInt8) (x:UInt8) (n:Int):sF W {lp:=true,tl:=[96]} 74 [.str s] [] 100000 [bf,bf,bf,bf,bf,bf,aE 1,Ans.byt (some x),bf,bf,bf,bf,bf,bf,bf,ee,.loopM [] [] (S91 s 0) (.exit 0) (S91 s (s.length:Int)),ee,cR (.tup [iA n,.val Value.nilIface]) [],ee] []=.ok (.ret (.tup [iA n,bA true]) [],[ee],MZ W 96 [.str s] [] (.ret (.tup [iA n,.val Value.nilIface]) [])::LZ W [] 74 0 (S91 s 0) (.exit 0) (S91 s (s.length:Int))::MatchK [] [] [] {t:=[(0,.str s),(25,iA (s.length:Int)),(26,iA 0)],h:=[]} (S91 s 0)::(decide (9<(s.length:Int))=false)::(decide ((x.toNat:Int)=48)=false)::(decide (9<(s.length:Int))=false)::(d2 (decide ((x.toNat:Int)=48)=false) (d2 (decide (9<(s.length:Int))=false) ((s[0]?=some x)::(d2 (decide (9<(s.length:Int))=false) (d4 (decide ((s.length:Int)<1)=false) [])))))):=kr
theorem q91_3 (W:World) (s:List UInt8) (x:UInt8):sF W {lp:=true,tl:=[96]} 74 [.str s] [] 100000 [bf,bf,bf,bf,bf,bf,aE 1,Ans.byt (some x),bf,bf,bt,bt,bf,bt,bf,bf,ee,.loopM [] [] (S91 s 0) .ret R91,ee] []=.ok (.ret (.tup [iA 0,bA false]) [],[ee],LZ W [] 74 0 (S91 s 0) .ret R91::MatchK [] [] [] {t:=[(0,.str s),(25,iA (s.length:Int)),(26,iA 0)],h:=[]} (S91 s 0)::((!decide (s=[48]))=false)::(decide (9<(s.length:Int))=false)::(decide ((x.toNat:Int)=48)=true)::(decide (9<(s.length:Int))=false)::(d2 (decide ((x.toNat:Int)=48)=true) (d2 (decide (9<(s.length:Int))=false) ((s[0]?=some x)::(d2 (decide (9<(s.length:Int))=false) (d4 (decide ((s.length:Int)<1)=false) [])))))):=kr
theorem q91_4 (W:World) (s:List UInt8) (x:UInt8):sF W {lp:=true,tl:=[96]} 74 [.str s] [] 100000 [bf,bf,bf,bf,bf,bf,aE 1,Ans.byt (some x),bf,bf,bf,bf,bf,bf,bf,ee,.loopM [] [] (S91 s 0) .ret R91,ee] []=.ok (.ret (.tup [iA 0,bA false]) [],[ee],LZ W [] 74 0 (S91 s 0) .ret R91::MatchK [] [] [] {t:=[(0,.str s),(25,iA (s.length:Int)),(26,iA 0)],h:=[]} (S91 s 0)::(decide (9<(s.length:Int))=false)::(decide ((x.toNat:Int)=48)=false)::(decide (9<(s.length:Int))=false)::(d2 (decide ((x.toNat:Int)=48)=false) (d2 (decide (9<(s.length:Int))=false) ((s[0]?=some x)::(d2 (decide (9<(s.length:Int))=false) (d4 (decide ((s.length:Int)<1)=false) [])))))):=kr
theorem call162:callable Tryz.prog 137=true:=kr
theorem call135:callable Tryz.prog 96=true:=kr
theorem call91:callable Tryz.prog 74=true:=kr
theorem bytes_get {s:List UInt8} {i:Nat} {x:UInt8} (h:s[i]?=some x):(bytesA s)[i]?=some (.val (.int .u8 x.toNat)):=by simp [bytesA,h]
section
variable (W:World) (s:List UInt8)
theorem dig_bd {x:UInt8} (h:dig x=true):¬ ((x.toNat:Int)<48)/\¬ (57<(x.toNat:Int)):=by simp only [dig,Bool.and_eq_true,decide_eq_true_eq] at h;omega
theorem loop162 (hl:s.length<=9) (hd:s.all dig=true):∀ i:Nat,i<=s.length->LoopC Tryz.prog W [] (nslots Tryz.prog 137) (loopOf Tryz.prog 137 0) (S162 s (numL (s.take i) 0) i) (.exit 0) (S162 s (numL s 0) s.length):=by
 refine loopC_inv (fun i:Nat=>S162 s (numL (s.take i) 0) i) (fun i=>i<=s.length) (fun i=>s.length - i) (by simp) ?_
 intro i h1
 have hbl:(bytesA s).length=s.length:=by simp [bytesA]
 by_cases hi:i<s.length
 ·obtain ⟨x,hx⟩:=getOf hi
  left
  have hdx:=dig_bd (List.all_eq_true.1 hd x (List.mem_of_getElem? hx))
  have hdi:(s.take i).all dig=true:=List.all_eq_true.2 fun y hy=>List.all_eq_true.1 hd y (List.mem_of_mem_take hy)
  have hn:=num_step hx (by omega) hdi (by omega) (by omega)
  rw [Int.mul_comm] at hn
  have hw:IntKind.u8.wrap ((x.toNat:Int) - 48)=(x.toNat:Int) - 48:=IntWalk.u8_in _ (by omega)
  have h9:decide (9<IntKind.u8.wrap ((x.toNat:Int) - 48))=false:=by rw [hw];exact decide_eq_false (by omega)
  exact ⟨i+1,by omega,by omega,body_of_sbodyK mixedz (b162_0 W s x _ i) Fb3_z4 [] [] Fb3_z1⟩
 ·right
  have hil:i=s.length:=by omega
  subst hil
  rw [List.take_length]
  exact body_of_sbodyM mixedz (b162_1 W s _ s.length) Fb3_z4 [] [] Fb3_z1
theorem atoi162 (h0:s ≠ []) (hl:s.length<=9) (hd:s.all dig=true):Pure Tryz.prog W 137 [.str s] (.tup [iA (numL s 0),.val .nilIface]):=by
 have hp:0<s.length:=List.length_pos_iff.2 h0
 obtain ⟨x,hx⟩:=getOf (l:=s) (i:=0) hp
 have hdx:=dig_bd (List.all_eq_true.1 hd x (List.mem_of_getElem? hx))
 have hlp:=loop162 W s hl hd 0 (by omega)
 rw [List.take_zero] at hlp
 exact goB rfl rfl (mut_of_sfun mixedz call162 rfl (p162_0 W s x (numL s 0)) Fb3_z5)
theorem atoi135 (h0:s ≠ []) (hl:s.length<=9) (hd:s.all dig=true):Pure Tryz.prog W 96 [.str s] (.tup [iA (numL s 0),.val .nilIface]):=by
 have hc:=mut_of_pure (by rfl) (atoi162 W s h0 hl hd)
 exact goB rfl rfl (mut_of_sfun mixedz call135 rfl (p135_0 W s (numL s 0)) Fb3_z4)
theorem loop91 (hl:s.length<=9) (hd:s.all dig=true):∀ i:Nat,i<=s.length->LoopC Tryz.prog W [] (nslots Tryz.prog 74) (loopOf Tryz.prog 74 0) (S91 s i) (.exit 0) (S91 s s.length):=by
 refine loopC_inv (fun i:Nat=>S91 s i) (fun i=>i<=s.length) (fun i=>s.length - i) (by simp) ?_
 intro i h1
 by_cases hi:i<s.length
 ·obtain ⟨x,hx⟩:=getOf hi
  left
  have hdx:=dig_bd (List.all_eq_true.1 hd x (List.mem_of_getElem? hx))
  exact ⟨i+1,by omega,by omega,body_of_sbodyK mixedz (b91_2 W s x i) Fb3_z4 [] [] Fb3_z1⟩
 ·right
  have hil:i=s.length:=by omega
  subst hil
  exact body_of_sbodyK mixedz (b91_3 W s s.length) Fb3_z4 [] [] Fb3_z1
theorem loopR91 (hd:s.all dig=false) (hl:s.length<=9):∀ i:Nat,(i<=s.length/\(s.take i).all dig=true)->LoopC Tryz.prog W [] (nslots Tryz.prog 74) (loopOf Tryz.prog 74 0) (S91 s i) .ret R91:=by
 refine loopC_inv (fun i:Nat=>S91 s i) (fun i=>i<=s.length/\(s.take i).all dig=true) (fun i=>s.length - i) (by simp) ?_
 rintro i ⟨h1,h2⟩
 by_cases hi:i<s.length
 ·obtain ⟨x,hx⟩:=getOf hi
  by_cases hlo:(x.toNat:Int)<48
  ·exact .inr (body_of_sbodyK mixedz (b91_0 W s x i) Fb3_z4 [] [] Fb3_z1)
  by_cases hhi:57<(x.toNat:Int)
  ·exact .inr (body_of_sbodyK mixedz (b91_1 W s x i) Fb3_z4 [] [] Fb3_z1)
  left
  exact ⟨i+1,⟨by omega,all_take hx h2 (dig_in hlo hhi)⟩,by omega,body_of_sbodyK mixedz (b91_2 W s x i) Fb3_z4 [] [] Fb3_z1⟩
 ·exfalso
  rw [List.take_of_length_le (by omega),hd] at h2;cases h2
theorem index91:Pure Tryz.prog W 74 [.str s] (idxA s):=by
 by_cases h1:(s.length:Int)<1
 ·exact goB (idxA_bad (idxOk_short h1)) rfl (mut_of_sfun mixedz call91 rfl (p91_0 W s) Fb3_z4)
 by_cases h2:9<(s.length:Int)
 ·exact goB (idxA_bad (idxOk_long h2)) rfl (mut_of_sfun mixedz call91 rfl (p91_1 W s) Fb3_z4)
 obtain ⟨x,hx⟩:=getOf (l:=s) (i:=0) (by omega)
 have hx0:(s.headD 0)=x:=by cases s with
  | nil=>simp at hx
  | cons a l=>simpa using hx
 by_cases h3:(x.toNat:Int)=48/\¬ s=[48]
 ·obtain ⟨h4,h3⟩:=h3
  exact goB (idxA_bad (idxOk_zero2 h1 h3 (by rw [hx0];exact h4))) rfl (mut_of_sfun mixedz call91 rfl (p91_2 W s x) Fb3_z4)
 have h3':¬ 1<(s.length:Int)\/¬ ((s.headD 0).toNat:Int)=48:=by
  rw [hx0]
  by_cases e:(x.toNat:Int)=48
  ·left
   have e2:s=[48]:=Classical.byContradiction fun q=>h3 ⟨e,q⟩
   rw [e2];simp
  ·exact .inr e
 by_cases hd:s.all dig=true
 ·have hlp:=loop91 W s (by omega) hd 0 (by omega)
  have hg:=idxOk_good h1 h2 h3' hd
  have hc:=mut_of_pure (by rfl) (atoi135 W s (by rintro rfl;simp at h1) (by omega) hd)
  by_cases h5:(x.toNat:Int)=48
  ·have h6:s=[48]:=Classical.byContradiction fun q=>h3 ⟨h5,q⟩
   have h7:(!decide (s=[48]))=false:=by rw [decide_eq_true h6];rfl
   exact goB (idxA_good hg rfl) rfl (mut_of_sfun mixedz call91 rfl (p91_3 W s x (numL s 0)) Fb3_z5)
  ·exact goB (idxA_good hg rfl) rfl (mut_of_sfun mixedz call91 rfl (p91_4 W s x (numL s 0)) Fb3_z5)
 ·have hd':s.all dig=false:=by simpa using hd
  have hlp:=loopR91 W s hd' (by omega) 0 ⟨by omega,by simp⟩
  obtain ⟨y,hy,hyd⟩:=List.all_eq_false.1 hd'
  obtain ⟨k,hk⟩:=List.getElem?_of_mem hy
  have hb:=idxOk_dig hk (by simpa using hyd)
  by_cases h5:(x.toNat:Int)=48
  ·have h6:s=[48]:=Classical.byContradiction fun q=>h3 ⟨h5,q⟩
   have h7:(!decide (s=[48]))=false:=by rw [decide_eq_true h6];rfl
   exact goB (idxA_bad hb) rfl (mut_of_sfun mixedz call91 rfl (q91_3 W s x) Fb3_z5)
  ·exact goB (idxA_bad hb) rfl (mut_of_sfun mixedz call91 rfl (q91_4 W s x) Fb3_z5)
end
end Go.Ac

namespace Go.Ac
open Go Go.Proofs
set_option maxRecDepth 10000
set_option maxHeartbeats 1000000
theorem Fb4_z1 {kp f ph σ σ'} (h:MatchK kp f ph σ σ':=by exact ⟨by rfl,(by simp only [S152,tOK,List.map_cons,List.map_nil,and_true]<;>exact zt),(by simp only [S152,hOK,List.map_cons,List.map_nil,and_true]<;>exact zh),(by simp only [S152,liveT,List.map_cons,List.map_nil,and_true]<;>exact zv),(by simp only [S152,liveH,List.map_cons,List.map_nil,and_true]<;>exact zv)⟩):MatchK kp f ph σ σ':=h
theorem Fb4_z5 {cs} (h:Holds cs:=by simp only [Holds,and_true]<;>and_intros<;>first|exact zd):Holds cs:=h
theorem Fb4_z6 {cs} (h:Holds cs:=by simp only [Holds,and_true]<;>and_intros<;>first|exact zd|exact Fb4_z1):Holds cs:=h
def padA (A:List (List UInt8)) (i:Nat):List AV:=(A.take i).map AV.str++List.replicate (A.length - i) (AV.str [])
def S152 (A:List (List UInt8)) (u:List UInt8) (i:Nat):AS:=⟨[(0,.str u),(1,.str [46]),(2,iA 0),(3,iA ((A.length:Int) - 1)),(9,.gs 100000 0 A.length),(10,iA i)],[(100000,.arr 9 1 (padA A i) .own)]⟩
theorem b152_0 (W:World) (A:List (List UInt8)) (u:List UInt8) (i:Nat):sQ W {lp:=true} 135 0 [] [0,1,2,3,9,10] (S152 A u i) [bt,aE 6,bt,aE 3,.lg,oS (.str []),aE 1,.lg,ee]=.ok ((.normal,{t:=[(0,.str (List.drop 1 (List.take (↑(defLen (.str u)):Int).toNat u))),(1,.str [46]),(2,iA 0),(3,iA ((A.length:Int) - 1)),(9,.gs 100000 0 A.length),(10,iA (IntKind.i64.wrap ((i:Int)+1)))],h:=[(100000,.arr 9 1 ((padA A i).set (0+(i:Int).toNat) (.str [])) .own)]}),[ee],[1<=(↑(defLen (.str u)):Int)/\(↑(defLen (.str u)):Int)<=(u.length:Int),(padA A i)[0+(i:Int).toNat]?=some (AV.str []),0<=(i:Int)/\(i:Int)<(A.length:Int),decide ([46]=u)=true,decide ((i:Int)<(A.length:Int) - 1)=true]):=kr
theorem b152_2 (W:World) (A:List (List UInt8)) (u:List UInt8) (i:Nat):sQ W {lp:=true} 135 0 [] [0,1,2,3,9,10] (S152 A u i) [bt,aE 6,bf,aE 4,bf,.lg,.lg,.lg,oS (.str []),.lg,.lg,ee]=.ok ((.normal,{t:=[(0,.str (List.drop (IntKind.i64.wrap (ixbB u (UInt8.ofNat 46)+1)).toNat (List.take (↑(defLen (.str u)):Int).toNat u))),(1,.str [46]),(2,iA 0),(3,iA ((A.length:Int) - 1)),(9,.gs 100000 0 A.length),(10,iA (IntKind.i64.wrap ((i:Int)+1)))],h:=[(100000,.arr 9 1 ((padA A i).set (0+(i:Int).toNat) (.str (List.drop 0 (List.take (IntKind.i64.wrap (ixbB u (UInt8.ofNat 46)+0)).toNat u)))) .own)]}),[ee],[IntKind.i64.wrap (ixbB u (UInt8.ofNat 46)+1)<=(↑(defLen (.str u)):Int)/\(↑(defLen (.str u)):Int)<=(u.length:Int),0<=IntKind.i64.wrap (ixbB u (UInt8.ofNat 46)+1)/\0<=(↑(defLen (.str u)):Int),(padA A i)[0+(i:Int).toNat]?=some (AV.str []),0<=(i:Int)/\(i:Int)<(A.length:Int),0<=IntKind.i64.wrap (ixbB u (UInt8.ofNat 46)+0)/\IntKind.i64.wrap (ixbB u (UInt8.ofNat 46)+0)<=(u.length:Int),(0:Int)<=0/\0<=IntKind.i64.wrap (ixbB u (UInt8.ofNat 46)+0),decide (ixbB u (UInt8.ofNat 46)<0)=false,decide ([46]=u)=false,decide ((i:Int)<(A.length:Int) - 1)=true]):=kr
theorem b152_3 (W:World) (A:List (List UInt8)) (u:List UInt8) (i:Nat):sbodyM Tryz.prog W {lp:=true} 135 0 [] (S152 A u i) [bf,ee]=.ok ((.exit 0,{t:=[(0,.str u),(1,.str [46]),(2,iA 0),(3,iA ((A.length:Int) - 1)),(9,.gs 100000 0 A.length),(10,iA (i:Int)),(34,iA (i:Int)),(35,iA ((A.length:Int) - 1)),(36,bA (decide ((i:Int)<(A.length:Int) - 1)))],h:=[(100000,.arr 9 1 (padA A i) .own)]}),[ee],[decide ((i:Int)<(A.length:Int) - 1)=false]):=kr
theorem p152_0 (W:World) (s:List UInt8) (A:List (List UInt8)) (u:List UInt8) (i:Nat):sF W {lp:=true,fin:=9} 135 [.str s,.str [46],iA 0,iA (-1)] [] 100000 [aE 8,.lg,.lg,ee,.loopM [] [] (S152 A s 0) (.exit 0) (S152 A u i),.lg,oS (.str []),.lg,.lg,ee,.fin [] [] (.gs 100000 0 A.length) [(100000,.arr 9 1 (List.map AV.str A) .own)],ee] []=.ok (.ret (.gs 100000 0 A.length) [(100000,.arr 9 1 (List.map AV.str A) .own)],[ee],[MatchK [] [] [] {t:=[(0,.gs 100000 0 ((IntKind.i64.wrap ((i:Int)+1)).toNat - 0))],h:=[(100000,.arr 9 1 ((padA A i).set (0+(i:Int).toNat) (.str u)) .own)]} {t:=[(0,.gs 100000 0 A.length)],h:=[(100000,.arr 9 1 (List.map AV.str A) .own)]},0<=IntKind.i64.wrap ((i:Int)+1)/\IntKind.i64.wrap ((i:Int)+1)<=(A.length:Int),(0:Int)<=0/\0<=IntKind.i64.wrap ((i:Int)+1),(padA A i)[0+(i:Int).toNat]?=some (AV.str []),0<=(i:Int)/\(i:Int)<(A.length:Int),LZ W [] 135 0 (S152 A s 0) (.exit 0) (S152 A u i),MatchK [] [] [] {t:=[(0,.str s),(1,.str [46]),(2,iA 0),(3,iA (IntKind.i64.wrap ((if IntKind.i64.wrap ((s.length:Int)+1)<IntKind.i64.wrap (cntB s (UInt8.ofNat 46)+1) then IntKind.i64.wrap ((s.length:Int)+1) else IntKind.i64.wrap (cntB s (UInt8.ofNat 46)+1)) - 1))),(9,.gs 100000 0 (if IntKind.i64.wrap ((s.length:Int)+1)<IntKind.i64.wrap (cntB s (UInt8.ofNat 46)+1) then IntKind.i64.wrap ((s.length:Int)+1) else IntKind.i64.wrap (cntB s (UInt8.ofNat 46)+1)).toNat),(10,iA 0)],h:=[(100000,.arr 9 1 (List.replicate (if IntKind.i64.wrap ((s.length:Int)+1)<IntKind.i64.wrap (cntB s (UInt8.ofNat 46)+1) then IntKind.i64.wrap ((s.length:Int)+1) else IntKind.i64.wrap (cntB s (UInt8.ofNat 46)+1)).toNat (.str [])) .own)]} (S152 A s 0),(16 * if IntKind.i64.wrap ((s.length:Int)+1)<IntKind.i64.wrap (cntB s (UInt8.ofNat 46)+1) then IntKind.i64.wrap ((s.length:Int)+1) else IntKind.i64.wrap (cntB s (UInt8.ofNat 46)+1))<=281474976710656/\(if IntKind.i64.wrap ((s.length:Int)+1)<IntKind.i64.wrap (cntB s (UInt8.ofNat 46)+1) then IntKind.i64.wrap ((s.length:Int)+1) else IntKind.i64.wrap (cntB s (UInt8.ofNat 46)+1))<=9223372036854775807,(0<=if IntKind.i64.wrap ((s.length:Int)+1)<IntKind.i64.wrap (cntB s (UInt8.ofNat 46)+1) then IntKind.i64.wrap ((s.length:Int)+1) else IntKind.i64.wrap (cntB s (UInt8.ofNat 46)+1))/\(if IntKind.i64.wrap ((s.length:Int)+1)<IntKind.i64.wrap (cntB s (UInt8.ofNat 46)+1) then IntKind.i64.wrap ((s.length:Int)+1) else IntKind.i64.wrap (cntB s (UInt8.ofNat 46)+1))<=if IntKind.i64.wrap ((s.length:Int)+1)<IntKind.i64.wrap (cntB s (UInt8.ofNat 46)+1) then IntKind.i64.wrap ((s.length:Int)+1) else IntKind.i64.wrap (cntB s (UInt8.ofNat 46)+1)]):=kr
theorem p115_0 (W:World) (s:List UInt8) (A:List (List UInt8)):sF W {lp:=true,tl:=[135]} 93 [.str s,.str [46]] [] 100000 [ee,cR (sL 1 (List.map AV.str A)) [],ee] []=.ok (.ret (sL 1 (List.map AV.str A)) [],[ee],[MZ W 135 [.str s,.str [46],iA 0,iA (-1)] [] (.ret (sL 1 (List.map AV.str A)) [])]):=kr
theorem call152:callable Tryz.prog 135=true:=kr
theorem call115:callable Tryz.prog 93=true:=kr
theorem rep_clo:∀ n:Nat,cloL (List.replicate n (AV.str []))=true
 | 0=>rfl
 | n+1=>by rw [List.replicate_succ];simp only [cloL,rep_clo n,Bool.and_true];rfl
theorem padA_clo (A:List (List UInt8)) (i:Nat):cloL (padA A i)=true:=by unfold padA;rw [clo_append,cloL_str,rep_clo];rfl
theorem padA_set {A:List (List UInt8)} {i:Nat} {x:List UInt8} (h:A[i]?=some x):(padA A i).set i (.str x)=padA A (i+1):=take_pad h (List.getElem?_eq_some_iff.1 h).1
theorem padA_get {A:List (List UInt8)} {i:Nat} (h:i<A.length):(padA A i)[i]?=some (.str []):=pad_get h (Nat.le_refl _)
theorem padA_all (A:List (List UInt8)):padA A A.length=A.map AV.str:=by simp [padA]
theorem padA_zero (A:List (List UInt8)):List.replicate A.length (AV.str [])=padA A 0:=by simp [padA]
def lastU (A:List (List UInt8)):List UInt8:=(A.drop (A.length - 1)).headD []
section
variable (W:World) (s:List UInt8)
theorem loop152 (A:List (List UInt8)) (hs:s.length<=2 ^ 30) (hA:A.length<=s.length+1):∀ p:Nat×List UInt8,(p.1<A.length/\splitD 46 p.2=A.drop p.1/\p.2.length<=s.length) →
 LoopC Tryz.prog W [] (nslots Tryz.prog 135) (loopOf Tryz.prog 135 0) (S152 A p.2 p.1) (.exit 0) (S152 A (lastU A) (A.length - 1:Nat)):=by
 refine loopC_inv (fun p:Nat×List UInt8=>S152 A p.2 p.1) (fun p=>p.1<A.length/\splitD 46 p.2=A.drop p.1/\p.2.length<=s.length) (fun p=>A.length - p.1) (by simp) ?_
 rintro ⟨i,u⟩ ⟨h1,h2,h3⟩
 simp only at h1 h2 h3
 have hdl:defLen (AV.str u)=u.length:=rfl
 by_cases hi:(i:Int)<(A.length:Int) - 1
 ·left
  by_cases hm:ixbB u (UInt8.ofNat 46)<0
  ·exfalso
   have e:=splitD_one 46 u (by rw [<-ixbB_eq Tryz.prog];exact hm)
   have:=congrArg List.length (h2.symm.trans e)
   simp only [List.length_drop,List.length_cons,List.length_nil] at this
   omega
  obtain ⟨m,hixb⟩:=Int.eq_ofNat_of_zero_le (show 0<=ixbB u (UInt8.ofNat 46) by omega)
  have hixb':Lib.indexByte u 46=(m:Int):=by rw [<-ixbB_eq Tryz.prog];exact hixb
  obtain ⟨hcut,hml⟩:=splitD_cut 46 u m hixb'
  have hx:A[i]?=some (u.take m):=by
   have:=congrArg List.head? (h2.symm.trans hcut)
   rw [List.head?_drop] at this;simpa using this
  have hrest:splitD 46 (u.drop (m+1))=A.drop (i+1):=by
   have:=congrArg List.tail (h2.symm.trans hcut)
   rw [List.tail_drop] at this;simpa using this.symm
  have hw0:IntKind.i64.wrap ((m:Int)+0)=(m:Int):=by rw [IntWalk.i64_in _ (by omega)];omega
  have hw1:IntKind.i64.wrap ((m:Int)+1)=((m+1:Nat):Int):=wrap_succ (by omega)
  have hws:IntKind.i64.wrap ((i:Int)+1)=((i+1:Nat):Int):=wrap_succ (by omega)
  refine ⟨(i+1,u.drop (m+1)),⟨by simp only;omega,hrest,by simp only [List.length_drop];omega⟩,by simp only;omega,?_⟩
  by_cases he:[46]=u
  ·subst he
   have hm0:m=0:=by simp only [List.length_cons,List.length_nil] at hml;omega
   subst hm0
   have hset:(padA A i).set (0+((i:Int)).toNat) (AV.str [])=padA A (i+1):=by
    rw [Int.toNat_natCast,Nat.zero_add];exact padA_set hx
   exact body_of_sbodyK mixedz (b152_0 W A [46] i) Fb4_z5 [] [] Fb4_z1
  ·have hset:(padA A i).set (0+((i:Int)).toNat) (AV.str (List.drop 0 (List.take ((m:Int)).toNat u)))=padA A (i+1):=by
    rw [Int.toNat_natCast,Nat.zero_add,Int.toNat_natCast,List.drop_zero];exact padA_set hx
   exact body_of_sbodyK mixedz (b152_2 W A u i) Fb4_z5 [] [] Fb4_z1
 ·right
  have hi2:i=A.length - 1:=by omega
  subst hi2
  have e1:=splitD_single 46 u (by rw [h2];simp only [List.length_drop];omega)
  have e2:lastU A=u:=by unfold lastU;rw [<-h2,e1];rfl
  rw [e2]
  exact body_of_sbodyM mixedz (b152_3 W A u _) Fb4_z5 [] [] Fb4_z1
theorem genSplit152 (hs:s.length<=2 ^ 30):Pure Tryz.prog W 135 [.str s,.str [46],iA 0,iA (-1)] (.sl 1 ((splitD 46 s).map AV.str) []):=by
 have hA:(splitD 46 s).length=Lib.countByte s 46+1:=splitD_len 46 s
 have hcl:Lib.countByte s 46<=s.length:=countByte_le s 46
 generalize hAA:splitD 46 s=A at hA
 have hcb:cntB s (UInt8.ofNat 46)=(Lib.countByte s 46:Int):=cntB_eq Tryz.prog s 46
 have hw1:IntKind.i64.wrap (cntB s (UInt8.ofNat 46)+1)=(A.length:Int):=by rw [hcb,IntWalk.i64_in _ (by omega)];omega
 have hw2:IntKind.i64.wrap ((s.length:Int)+1)=(s.length:Int)+1:=by rw [IntWalk.i64_in _ (by omega)]
 have hN:(if IntKind.i64.wrap ((s.length:Int)+1)<IntKind.i64.wrap (cntB s (UInt8.ofNat 46)+1) then IntKind.i64.wrap ((s.length:Int)+1) else IntKind.i64.wrap (cntB s (UInt8.ofNat 46)+1))=(A.length:Int):=by
  rw [hw1,hw2,if_neg (by omega)]
 have hwm:IntKind.i64.wrap ((A.length:Int) - 1)=(A.length:Int) - 1:=by rw [IntWalk.i64_in _ (by omega)]
 have h1:A.length - 1<A.length:=by omega
 have hws:IntKind.i64.wrap (((A.length - 1:Nat):Int)+1)=(A.length:Int):=by rw [IntWalk.i64_in _ (by omega)];omega
 have hlp:=loop152 W s A hs (by omega) (0,s) ⟨by simp only;omega,by simp only;rw [hAA];rfl,Nat.le_refl _⟩
 have hlast:A[A.length - 1]?=some (lastU A):=by
  unfold lastU
  have:A.length - 1<A.length:=h1
  rw [List.drop_eq_getElem_cons this,List.getElem?_eq_getElem this];rfl
 have hset:(padA A (A.length - 1)).set (0+(((A.length - 1:Nat):Int)).toNat) (AV.str (lastU A))=A.map AV.str:=by
  rw [Int.toNat_natCast,Nat.zero_add,padA_set hlast,<-padA_all];congr 1;omega
 have hdl:defLen (AV.str (lastU A))=(lastU A).length:=rfl
 have h:=mut_of_sfun mixedz call152 rfl (p152_0 W s A (lastU A) (A.length - 1)) Fb4_z6
 exact pure_frz1 h (by simp) (cloL_str _)
theorem Split115 (hs:s.length<=2 ^ 30):Pure Tryz.prog W 93 [.str s,.str [46]] (.sl 1 ((splitD 46 s).map AV.str) []):=by
 have hc:=mut_of_pure (by rfl) (genSplit152 W s hs)
 exact goB rfl rfl (mut_of_sfun mixedz call115 rfl (p115_0 W s (splitD 46 s)) Fb4_z5)
end
end Go.Ac

namespace Go.Ac
open Go Go.Proofs
set_option maxRecDepth 10000
set_option maxHeartbeats 1000000
theorem Fb5_z1 {kp f ph σ σ'} (h:MatchK kp f ph σ σ':=by exact ⟨by rfl,(by simp only [S76,E76,R76,S23,E23,tOK,List.map_cons,List.map_nil,and_true]<;>exact zt),(by simp only [S76,E76,R76,S23,E23,hOK,List.map_cons,List.map_nil,and_true]<;>exact zh),(by simp only [S76,E76,R76,S23,E23,liveT,List.map_cons,List.map_nil,and_true]<;>exact zv),(by simp only [S76,E76,R76,S23,E23,liveH,List.map_cons,List.map_nil,and_true]<;>exact zv)⟩):MatchK kp f ph σ σ':=h
theorem Fb5_z5 {cs} (h:Holds cs:=by simp only [Holds,and_true]<;>and_intros<;>first|exact zd):Holds cs:=h
theorem Fb5_z6 {cs} (h:Holds cs:=by simp only [Holds,and_true]<;>and_intros<;>first|exact zd|exact Fb5_z1):Holds cs:=h
def S76 (p:List (List UInt8)) (t:Int) (i:Nat):AS:=⟨[(5,iA t),(6,.gs 100000 0 i),(10,.sl 1 (p.map AV.str) []),(11,iA p.length),(12,iA i)],[(100000,.arr 9 1 ((p.take i).map AV.str) .own)]⟩
def E76 (p:List (List UInt8)):AS:=⟨[(6,.gs 100000 0 p.length)],[(100000,.arr 9 1 (p.map AV.str) .own)]⟩
def R76 (t:Int):AS:=⟨[(2,.val (.slice none 0 0)),(3,iA 20),(4,iA t)],[]⟩
def S23 (s:List UInt8) (p:List (List UInt8)) (a i j:Nat):AS:=⟨[(0,.str s),(5,.gs 100000 0 j),(6,iA a),(7,iA i)],[(100000,.arr 9 1 ((p.take j).map AV.str) .own)]⟩
def E23 (p:List (List UInt8)):AS:=⟨[(5,.gs 100000 0 p.length)],[(100000,.arr 9 1 (p.map AV.str) .own)]⟩
theorem b76_0 (W:World) (p:List (List UInt8)) (t:Int) (i:Nat) (x:List UInt8):sQ W {lp:=true,tl:=[94]} 71 0 [] [2,3,4,5,6,10,11,12] (S76 p t i) [bt,aE 1,oS (.str x),ee,cR (bA (segB x)) [],bt,bt,bt,bt,ee]=.ok ((.ret,{t:=[(2,.val (Value.slice none 0 0)),(3,iA 20),(4,iA t),(5,iA t),(6,.gs 100000 0 i),(10,sL 1 (List.map AV.str p)),(11,iA (p.length:Int)),(12,iA (i:Int))],h:=[(100000,.arr 9 1 (List.map AV.str (List.take i p)) .own)]}),[aE 9999999],d4 ((!segB x)=true) [MZ W 94 [.str x] [] (.ret (bA (segB x)) []),(List.map AV.str p)[(i:Int).toNat]?=some (AV.str x),decide ((i:Int)<(p.length:Int))=true]):=kr
theorem b76_1 (W:World) (p:List (List UInt8)) (t:Int) (i:Nat) (x:List UInt8):sQ W {lp:=true,tl:=[94]} 71 0 [] [2,3,4,5,6,10,11,12] (S76 p t i) [bt,aE 1,oS (.str x),ee,cR (bA (segB x)) [],bf,bf,bf,bf,bt,ee]=.ok ((.ret,{t:=[(2,.val (Value.slice none 0 0)),(3,iA 20),(4,iA t),(5,iA t),(6,.gs 100000 0 i),(10,sL 1 (List.map AV.str p)),(11,iA (p.length:Int)),(12,iA (i:Int))],h:=[(100000,.arr 9 1 (List.map AV.str (List.take i p)) .own)]}),[ee],(decide ((i:Int)=16)=true)::(d4 ((!segB x)=false) [MZ W 94 [.str x] [] (.ret (bA (segB x)) []),(List.map AV.str p)[(i:Int).toNat]?=some (AV.str x),decide ((i:Int)<(p.length:Int))=true])):=kr
theorem b76_2 (W:World) (p:List (List UInt8)) (t:Int) (i:Nat) (x:List UInt8):sQ W {lp:=true,tl:=[94]} 71 0 [] [2,3,4,5,6,10,11,12] (S76 p t i) [bt,aE 1,oS (.str x),ee,cR (bA (segB x)) [],bf,bf,bf,bf,bf,aE 1,.lg,.lg,ee]=.ok ((.normal,{t:=[(5,iA (IntKind.i64.wrap (t+IntKind.i64.wrap ((x.length:Int)+1)))),(6,.gs 100002 0 (i+[AV.str x].length)),(10,sL 1 (List.map AV.str p)),(11,iA (p.length:Int)),(12,iA (IntKind.i64.wrap ((i:Int)+1)))],h:=[(100000,.dead),(100001,.arr 9 1 [.str x] .own),(100002,.arr 9 1 (List.take i (List.map AV.str (List.take i p))++[AV.str x]) .own)]}),[ee],((i+[AV.str x].length) * 16<=140737488355328)::((St.own=St.own\/St.own=St.shr/\i=(List.map AV.str (List.take i p)).length)/\i<=(List.map AV.str (List.take i p)).length)::(decide ((i:Int)=16)=false)::(d4 ((!segB x)=false) [MZ W 94 [.str x] [] (.ret (bA (segB x)) []),(List.map AV.str p)[(i:Int).toNat]?=some (AV.str x),decide ((i:Int)<(p.length:Int))=true])):=kr
theorem b76_3 (W:World) (p:List (List UInt8)) (t:Int) (i:Nat):sQ W {lp:=true,tl:=[94]} 71 0 [] [2,3,4,5,6,10,11,12] (S76 p t i) [bf,ee]=.ok ((.exit 0,{t:=[(5,iA t),(6,.gs 100000 0 i),(10,sL 1 (List.map AV.str p)),(11,iA (p.length:Int)),(12,iA (i:Int))],h:=[(100000,.arr 9 1 (List.map AV.str (List.take i p)) .own)]}),[ee],[decide ((i:Int)<(p.length:Int))=false]):=kr
theorem p76_0 (W:World) (s:List UInt8) (p:List (List UInt8)) (t:Int):sF W {fin:=9,lp:=true,tl:=[93]} 71 [.str s] [] 100000 [ee,cR (sL 1 (List.map AV.str p)) [],ee,.loopM [] [(100000,1)] (S76 p 0 0) (.exit 0) (E76 p),ee,.fin [] [] (.tup [.gs 100000 0 p.length,iA 0,iA 0]) [(100000,.arr 9 1 (List.map AV.str p) .own)],ee] []=.ok (.ret (.tup [.gs 100000 0 p.length,iA 0,iA 0]) [(100000,.arr 9 1 (List.map AV.str p) .own)],[ee],[MatchK [] [] [] {t:=[(0,.tup [.gs 100000 0 p.length,iA 0,iA 0])],h:=[(100000,.arr 9 1 (List.map AV.str p) .own)]} {t:=[(0,.tup [.gs 100000 0 p.length,iA 0,iA 0])],h:=[(100000,.arr 9 1 (List.map AV.str p) .own)]},LZ W [] 71 0 (S76 p 0 0) (.exit 0) (E76 p),MatchK [] [] [(100000,1)] {t:=[(5,iA 0),(6,.val (Value.slice none 0 0)),(10,sL 1 (List.map AV.str p)),(11,iA (↑(List.map AV.str p).length:Int)),(12,iA 0)],h:=[]} (S76 p 0 0),MZ W 93 [.str s,.str [46]] [] (.ret (sL 1 (List.map AV.str p)) [])]):=kr
theorem q76_0 (W:World) (s:List UInt8) (p:List (List UInt8)) (t:Int):sF W {lp:=true,tl:=[93]} 71 [.str s] [] 100000 [ee,cR (sL 1 (List.map AV.str p)) [],ee,.loopM [] [(100000,1)] (S76 p 0 0) .ret (R76 t),ee] []=.ok (.ret (.tup [.val (Value.slice none 0 0),iA 20,iA t]) [],[ee],[LZ W [] 71 0 (S76 p 0 0) .ret (R76 t),MatchK [] [] [(100000,1)] {t:=[(5,iA 0),(6,.val (Value.slice none 0 0)),(10,sL 1 (List.map AV.str p)),(11,iA (↑(List.map AV.str p).length:Int)),(12,iA 0)],h:=[]} (S76 p 0 0),MZ W 93 [.str s,.str [46]] [] (.ret (sL 1 (List.map AV.str p)) [])]):=kr
theorem b23_0 (W:World) (s:List UInt8) (p:List (List UInt8)) (a i j:Nat) (t:Int) (y:UInt8):sQ W {lp:=true,tl:=[77]} 58 0 [] [0,5,6,7] (S23 s p a i j) [bt,bt,bt,bt,aE 1,Ans.byt (some y),bt,bt,bt,ee]=.ok ((.normal,{t:=[(0,.str s),(5,.gs 100000 0 j),(6,iA (a:Int)),(7,iA (IntKind.i64.wrap ((i:Int)+1)))],h:=[(100000,.arr 9 1 (List.map AV.str (List.take j p)) .own)]}),[ee],((!decide ((y.toNat:Int)=46))=true)::(d2 (decide ((i:Int)<(s.length:Int))=true) ((s[(i:Int).toNat]?=some y)::(d3 (decide ((i:Int)<(s.length:Int))=true) [decide ((i:Int)<=(s.length:Int))=true])))):=kr
theorem b23_1 (W:World) (s:List UInt8) (p:List (List UInt8)) (a i j:Nat) (t:Int) (y:UInt8):sQ W {lp:=true,tl:=[77]} 58 0 [] [0,2,3,4,5,6,7] (S23 s p a i j) [bt,bt,bt,bt,aE 1,Ans.byt (some y),bt,bt,bf,bt,bt,bt,bt,bt,bt,bt,ee]=.ok ((.ret,{t:=[(0,.str s),(2,.val (Value.slice none 0 0)),(3,iA 20),(4,iA (a:Int)),(5,.gs 100000 0 j),(6,iA (a:Int)),(7,iA (i:Int))],h:=[(100000,.arr 9 1 (List.map AV.str (List.take j p)) .own)]}),[aE 9999999],(decide ((j:Int)=16)=true)::(d6 (decide ((j:Int)=16)=true) (((!decide ((y.toNat:Int)=46))=false)::(d2 (decide ((i:Int)<(s.length:Int))=true) ((s[(i:Int).toNat]?=some y)::(d3 (decide ((i:Int)<(s.length:Int))=true) [decide ((i:Int)<=(s.length:Int))=true])))))):=kr
theorem b23_2 (W:World) (s:List UInt8) (p:List (List UInt8)) (a i j:Nat) (t:Int) (x:List UInt8) (y:UInt8):sQ W {lp:=true,tl:=[77]} 58 0 [] [0,2,3,4,5,6,7] (S23 s p a i j) [bt,bt,bt,bt,aE 1,Ans.byt (some y),bt,bt,bf,bf,bf,bf,bf,aE 1,.lg,bf,ee,cR (bA (segB x)) [],bf,bf,bt,ee]=.ok ((.ret,{t:=[(0,.str s),(2,.val (Value.slice none 0 0)),(3,iA 20),(4,iA (a:Int)),(5,.gs 100000 0 j),(6,iA (a:Int)),(7,iA (i:Int))],h:=[(100000,.arr 9 1 (List.map AV.str (List.take j p)) .own)]}),[ee],((!segB x)=true)::(d2 (decide ((j:Int)=16)=false) (MZ W 77 [.str (List.drop (a:Int).toNat (List.take (i:Int).toNat s))] [] (.ret (bA (segB x)) [])::(decide ((j:Int)=16)=false)::((a:Int)<=(i:Int)/\(i:Int)<=(s.length:Int))::(d4 (decide ((j:Int)=16)=false) (((!decide ((y.toNat:Int)=46))=false)::(d2 (decide ((i:Int)<(s.length:Int))=true) ((s[(i:Int).toNat]?=some y)::(d3 (decide ((i:Int)<(s.length:Int))=true) [decide ((i:Int)<=(s.length:Int))=true])))))))):=kr
theorem b23_3 (W:World) (s:List UInt8) (p:List (List UInt8)) (a i j:Nat) (t:Int) (x:List UInt8) (y:UInt8):sQ W {lp:=true,tl:=[77]} 58 0 [] [0,5,6,7] (S23 s p a i j) [bt,bt,bt,bt,aE 1,Ans.byt (some y),bt,bt,bf,bf,bf,bf,bf,aE 1,.lg,bf,ee,cR (bA (segB x)) [],bf,bf,bf,aE 1,.lg,aE 1,.lg,.lg,ee]=.ok ((.normal,{t:=[(0,.str s),(5,.gs 100002 0 (j+[AV.str (List.drop (a:Int).toNat (List.take (i:Int).toNat s))].length)),(6,iA (IntKind.i64.wrap ((i:Int)+1))),(7,iA (IntKind.i64.wrap ((i:Int)+1)))],h:=[(100000,.dead),(100001,.arr 9 1 [.str (List.drop (a:Int).toNat (List.take (i:Int).toNat s))] .own),(100002,.arr 9 1 (List.take j (List.map AV.str (List.take j p))++[AV.str (List.drop (a:Int).toNat (List.take (i:Int).toNat s))]) .own)]}),[ee],((j+[AV.str (List.drop (a:Int).toNat (List.take (i:Int).toNat s))].length) * 16<=140737488355328)::((St.own=St.own\/St.own=St.shr/\j=(List.map AV.str (List.take j p)).length)/\j<=(List.map AV.str (List.take j p)).length)::((a:Int)<=(i:Int)/\(i:Int)<=(s.length:Int))::((!segB x)=false)::(d2 (decide ((j:Int)=16)=false) (MZ W 77 [.str (List.drop (a:Int).toNat (List.take (i:Int).toNat s))] [] (.ret (bA (segB x)) [])::(decide ((j:Int)=16)=false)::((a:Int)<=(i:Int)/\(i:Int)<=(s.length:Int))::(d4 (decide ((j:Int)=16)=false) (((!decide ((y.toNat:Int)=46))=false)::(d2 (decide ((i:Int)<(s.length:Int))=true) ((s[(i:Int).toNat]?=some y)::(d3 (decide ((i:Int)<(s.length:Int))=true) [decide ((i:Int)<=(s.length:Int))=true])))))))):=kr
theorem b23_4 (W:World) (s:List UInt8) (p:List (List UInt8)) (a i j:Nat) (t:Int):sQ W {lp:=true,tl:=[77]} 58 0 [] [0,2,3,4,5,6,7] (S23 s p a i j) [bt,bf,bf,bf,bf,bf,aE 1,bt,bt,bt,bt,bt,bt,bt,ee]=.ok ((.ret,{t:=[(0,.str s),(2,.val (Value.slice none 0 0)),(3,iA 20),(4,iA (a:Int)),(5,.gs 100000 0 j),(6,iA (a:Int)),(7,iA (i:Int))],h:=[(100000,.arr 9 1 (List.map AV.str (List.take j p)) .own)]}),[aE 9999999],(decide ((j:Int)=16)=true)::(d6 (decide ((j:Int)=16)=true) ((decide ((i:Int)<(s.length:Int))=false)::(d4 (decide ((i:Int)<(s.length:Int))=false) [decide ((i:Int)<=(s.length:Int))=true])))):=kr
theorem b23_5 (W:World) (s:List UInt8) (p:List (List UInt8)) (a i j:Nat) (t:Int) (x:List UInt8):sQ W {lp:=true,tl:=[77]} 58 0 [] [0,2,3,4,5,6,7] (S23 s p a i j) [bt,bf,bf,bf,bf,bf,aE 1,bf,bf,bf,bf,aE 1,.lg,bf,ee,cR (bA (segB x)) [],bf,bf,bt,ee]=.ok ((.ret,{t:=[(0,.str s),(2,.val (Value.slice none 0 0)),(3,iA 20),(4,iA (a:Int)),(5,.gs 100000 0 j),(6,iA (a:Int)),(7,iA (i:Int))],h:=[(100000,.arr 9 1 (List.map AV.str (List.take j p)) .own)]}),[ee],((!segB x)=true)::(d2 (decide ((j:Int)=16)=false) (MZ W 77 [.str (List.drop (a:Int).toNat (List.take (i:Int).toNat s))] [] (.ret (bA (segB x)) [])::(decide ((j:Int)=16)=false)::((a:Int)<=(i:Int)/\(i:Int)<=(s.length:Int))::(d4 (decide ((j:Int)=16)=false) ((decide ((i:Int)<(s.length:Int))=false)::(d4 (decide ((i:Int)<(s.length:Int))=false) [decide ((i:Int)<=(s.length:Int))=true])))))):=kr
theorem b23_6 (W:World) (s:List UInt8) (p:List (List UInt8)) (a i j:Nat) (t:Int) (x:List UInt8):sQ W {lp:=true,tl:=[77]} 58 0 [] [0,5,6,7] (S23 s p a i j) [bt,bf,bf,bf,bf,bf,aE 1,bf,bf,bf,bf,aE 1,.lg,bf,ee,cR (bA (segB x)) [],bf,bf,bf,aE 1,.lg,aE 1,.lg,.lg,ee]=.ok ((.normal,{t:=[(0,.str s),(5,.gs 100002 0 (j+[AV.str (List.drop (a:Int).toNat (List.take (i:Int).toNat s))].length)),(6,iA (IntKind.i64.wrap ((i:Int)+1))),(7,iA (IntKind.i64.wrap ((i:Int)+1)))],h:=[(100000,.dead),(100001,.arr 9 1 [.str (List.drop (a:Int).toNat (List.take (i:Int).toNat s))] .own),(100002,.arr 9 1 (List.take j (List.map AV.str (List.take j p))++[AV.str (List.drop (a:Int).toNat (List.take (i:Int).toNat s))]) .own)]}),[ee],((j+[AV.str (List.drop (a:Int).toNat (List.take (i:Int).toNat s))].length) * 16<=140737488355328)::((St.own=St.own\/St.own=St.shr/\j=(List.map AV.str (List.take j p)).length)/\j<=(List.map AV.str (List.take j p)).length)::((a:Int)<=(i:Int)/\(i:Int)<=(s.length:Int))::((!segB x)=false)::(d2 (decide ((j:Int)=16)=false) (MZ W 77 [.str (List.drop (a:Int).toNat (List.take (i:Int).toNat s))] [] (.ret (bA (segB x)) [])::(decide ((j:Int)=16)=false)::((a:Int)<=(i:Int)/\(i:Int)<=(s.length:Int))::(d4 (decide ((j:Int)=16)=false) ((decide ((i:Int)<(s.length:Int))=false)::(d4 (decide ((i:Int)<(s.length:Int))=false) [decide ((i:Int)<=(s.length:Int))=true])))))):=kr
theorem b23_7 (W:World) (s:List UInt8) (p:List (List UInt8)) (a i j:Nat) (t:Int):sQ W {lp:=true,tl:=[77]} 58 0 [] [0,2,3,4,5,6,7] (S23 s p a i j) [bf,ee]=.ok ((.exit 0,{t:=[(0,.str s),(5,.gs 100000 0 j),(6,iA (a:Int)),(7,iA (i:Int))],h:=[(100000,.arr 9 1 (List.map AV.str (List.take j p)) .own)]}),[ee],[decide ((i:Int)<=(s.length:Int))=false]):=kr
theorem p23_0 (W:World) (s:List UInt8) (p:List (List UInt8)) (t:Int):sF W {fin:=9,lp:=true} 58 [.str s] [] 100000 [ee,.loopM [] [(100000,1)] (S23 s p 0 0 0) (.exit 0) (E23 p),ee,.fin [] [] (.tup [.gs 100000 0 p.length,iA 0,iA 0]) [(100000,.arr 9 1 (List.map AV.str p) .own)],ee] []=.ok (.ret (.tup [.gs 100000 0 p.length,iA 0,iA 0]) [(100000,.arr 9 1 (List.map AV.str p) .own)],[ee],[MatchK [] [] [] {t:=[(0,.tup [.gs 100000 0 p.length,iA 0,iA 0])],h:=[(100000,.arr 9 1 (List.map AV.str p) .own)]} {t:=[(0,.tup [.gs 100000 0 p.length,iA 0,iA 0])],h:=[(100000,.arr 9 1 (List.map AV.str p) .own)]},LZ W [] 58 0 (S23 s p 0 0 0) (.exit 0) (E23 p),MatchK [] [] [(100000,1)] {t:=[(0,.str s),(5,.val (Value.slice none 0 0)),(6,iA 0),(7,iA 0)],h:=[]} (S23 s p 0 0 0)]):=kr
theorem q23_0 (W:World) (s:List UInt8) (p:List (List UInt8)) (t:Int):sF W {lp:=true} 58 [.str s] [] 100000 [ee,.loopM [] [(100000,1)] (S23 s p 0 0 0) .ret (R76 t),ee] []=.ok (.ret (.tup [.val (Value.slice none 0 0),iA 20,iA t]) [],[ee],[LZ W [] 58 0 (S23 s p 0 0 0) .ret (R76 t),MatchK [] [] [(100000,1)] {t:=[(0,.str s),(5,.val (Value.slice none 0 0)),(6,iA 0),(7,iA 0)],h:=[]} (S23 s p 0 0 0)]):=kr
theorem call76:callable Tryz.prog 71=true:=kr
theorem call23:callable Tryz.prog 58=true:=kr
def parseAV (s:List UInt8):AV:=.tup [.sl 1 ((parseP s).map AV.str) [],iA (parseE s),iA (parseA s)]
theorem push_eq {p:List (List UInt8)} {i:Nat} {x:List UInt8} (hx:p[i]?=some x):List.take i (List.map AV.str (List.take i p))++[AV.str x]=List.map AV.str (List.take (i+1) p):=by
 rw [take_snoc hx,List.map_append,<-List.map_take,List.take_take,Nat.min_self];rfl
theorem indexByte_at (c:UInt8):∀ (l:List UInt8) (m:Nat),l[m]?=some c->(∀ k,k<m->l[k]? ≠ some c)->Lib.indexByte l c=(m:Int)
 | [],m,h,_=>by simp at h
 | x::l,0,h,_=>by
  have h:x=c:=by simpa using h
  simp [Lib.indexByte,h]
 | x::l,m+1,h,hn=>by
  have h0:¬ x=c:=fun e=>hn 0 (by omega) (by simp [e])
  have ih:=indexByte_at c l m (by simpa using h) fun k hk=>by have:=hn (k+1) (by omega);simpa using this
  simp only [Lib.indexByte,h0,beq_iff_eq,if_false,ih]
  split<;>omega
section
variable (W:World) (s:List UInt8) (p:List (List UInt8))
theorem step76 (hp:∀ x ∈ p,x.length<=2 ^ 30) (i:Nat) (t:Int) (hi:i<p.length) (h16:i<=16) (h0:0<=t) (ht:t<=i * (2 ^ 30+1)) (x:List UInt8) (hx:p[i]?=some x) (hb:¬ (segB x=false\/i=16)) :
 BodyC Tryz.prog W [] (nslots Tryz.prog 71) (loopOf Tryz.prog 71 0) (S76 p t i) .normal (S76 p (t+(x.length+1)) (i+1)):=by
 have hxl:=hp x (List.mem_of_getElem? hx)
 have hws:IntKind.i64.wrap ((i:Int)+1)=((i+1:Nat):Int):=wrap_succ (by omega)
 have hwt:IntKind.i64.wrap (t+IntKind.i64.wrap ((x.length:Int)+1))=t+((x.length:Int)+1):=by rw [IntWalk.i64_in ((x.length:Int)+1) (by omega),IntWalk.i64_in _ (by omega)]
 have hc:=mut_of_pure (by rfl) (segment116 W x)
 have hsx:(!segB x)=false:=by cases e:segB x with
  | true=>rfl
  | false=>exact absurd (.inl e) hb
 have h16':¬ i=16:=fun e=>hb (.inr e)
 have hget:(List.map AV.str p)[((i:Int)).toNat]?=some (AV.str x):=by rw [Int.toNat_natCast];exact strs_get hx
 exact body_of_sbodyK mixedz (b76_2 W p t i x) Fb5_z5 [(100000,100002)] [] Fb5_z1
theorem loop76 (hp:∀ x ∈ p,x.length<=2 ^ 30) (hn:scanV p 0 0=none):∀ q:Nat×Int,(q.1<=p.length/\q.1<=16/\scanV p 0 0=scanV (p.drop q.1) q.1 q.2/\0<=q.2/\q.2<=q.1 * (2 ^ 30+1)) →
 LoopC Tryz.prog W [] (nslots Tryz.prog 71) (loopOf Tryz.prog 71 0) (S76 p q.2 q.1) (.exit 0) (E76 p):=by
 refine loopC_inv (fun q:Nat×Int=>S76 p q.2 q.1) (fun q=>q.1<=p.length/\q.1<=16/\scanV p 0 0=scanV (p.drop q.1) q.1 q.2/\0<=q.2/\q.2<=q.1 * (2 ^ 30+1)) (fun q=>p.length - q.1) (by simp) ?_
 rintro ⟨i,t⟩ ⟨h1,h2,h3,h4,h5⟩
 simp only at h1 h2 h3 h4 h5
 by_cases hi:i<p.length
 ·left
  obtain ⟨x,hx⟩:=getOf hi
  have hxl:=hp x (List.mem_of_getElem? hx)
  by_cases hb:segB x=false\/i=16
  ·exfalso
   rw [hn,scan_stop hx hb] at h3;cases h3
  ·exact ⟨(i+1,t+(x.length+1)),⟨by simp only;omega,by simp only;omega,by simp only;rw [h3];exact scan_step hx hb,by simp only;omega,by simp only;omega⟩,by simp only;omega,step76 W p hp i t hi h2 h4 h5 x hx hb⟩
 ·right
  have hil:i=p.length:=by omega
  subst hil
  exact body_of_sbodyK mixedz (b76_3 W p t p.length) Fb5_z5 [] [] Fb5_z1
theorem loopR76 (hp:∀ x ∈ p,x.length<=2 ^ 30) {t0:Int} (hn:scanV p 0 0=some t0):∀ q:Nat×Int,(q.1<=p.length/\q.1<=16/\scanV p 0 0=scanV (p.drop q.1) q.1 q.2/\0<=q.2/\q.2<=q.1 * (2 ^ 30+1)) →
 LoopC Tryz.prog W [] (nslots Tryz.prog 71) (loopOf Tryz.prog 71 0) (S76 p q.2 q.1) .ret (R76 t0):=by
 refine loopC_inv (fun q:Nat×Int=>S76 p q.2 q.1) (fun q=>q.1<=p.length/\q.1<=16/\scanV p 0 0=scanV (p.drop q.1) q.1 q.2/\0<=q.2/\q.2<=q.1 * (2 ^ 30+1)) (fun q=>p.length - q.1) (by simp) ?_
 rintro ⟨i,t⟩ ⟨h1,h2,h3,h4,h5⟩
 simp only at h1 h2 h3 h4 h5
 by_cases hi:i<p.length
 ·obtain ⟨x,hx⟩:=getOf hi
  have hxl:=hp x (List.mem_of_getElem? hx)
  by_cases hb:segB x=false\/i=16
  ·right
   rw [hn,scan_stop hx hb] at h3
   obtain rfl:t0=t:=by simpa using h3
   have hget:(List.map AV.str p)[((i:Int)).toNat]?=some (AV.str x):=by rw [Int.toNat_natCast];exact strs_get hx
   have hc:=mut_of_pure (by rfl) (segment116 W x)
   cases e:segB x with
   | false =>
    have hsx:(!segB x)=true:=by rw [e];rfl
    exact body_of_sbodyK mixedz (b76_0 W p t0 i x) Fb5_z5 [] [] Fb5_z1
   | true =>
    have hsx:(!segB x)=false:=by rw [e];rfl
    have h16:i=16:=by rcases hb with hb|hb;(rw [e] at hb;cases hb);exact hb
    exact body_of_sbodyK mixedz (b76_1 W p t0 i x) Fb5_z5 [] [] Fb5_z1
  ·left
   exact ⟨(i+1,t+(x.length+1)),⟨by simp only;omega,by simp only;omega,by simp only;rw [h3];exact scan_step hx hb,by simp only;omega,by simp only;omega⟩,by simp only;omega,step76 W p hp i t hi h2 h4 h5 x hx hb⟩
 ·exfalso
  have hil:i=p.length:=by omega
  subst hil
  rw [hn,List.drop_length] at h3
  cases h3
theorem Parse76 (hs:s.length<=2 ^ 30):Pure Tryz.prog W 71 [.str s] (parseAV s):=by
 have hp:∀ x ∈ splitD 46 s,x.length<=2 ^ 30:=fun x hx=>by have:=splitD_part 46 s x hx;omega
 have hc:=mut_of_pure (by rfl) (Split115 W s hs)
 have hpl:(splitD 46 s).length<=2 ^ 30+1:=by have:=splitD_len 46 s;have:=countByte_le s 46;omega
 cases hq:scanV (splitD 46 s) 0 0 with
 | none =>
  have hlp:=loop76 W _ hp hq (0,0) ⟨by simp,by simp,by simp,by simp,by simp⟩
  have h:=mut_of_sfun mixedz call76 rfl (p76_0 W s (splitD 46 s) 0) Fb5_z6
  exact pure_frz [(100000,.arr 9 1 ((splitD 46 s).map AV.str) .own)] h (by intro q hq;simp only [List.mem_singleton] at hq;subst hq;exact ⟨by simp [hg],by simp [Frzable,cloL_str]⟩) (by
   simp [parseAV,parseP,parseE,parseA,hq,clA,clL,lk,iA];try exact List.take_of_length_le (by simp)) rfl
 | some t0 =>
  have hlp:=loopR76 W _ hp hq (0,0) ⟨by simp,by simp,by simp,by simp,by simp⟩
  refine pure_leR ?_ (pure_of_mut (by rfl) (mut_of_sfun mixedz call76 rfl (q76_0 W s (splitD 46 s) t0) Fb5_z6))
  unfold parseAV parseP parseE parseA
  rw [hq]
  exact .tup (.cons (.nil 1) (.cons (.refl _) (.cons (.refl _) .nil)))
theorem scan_head {a i j:Nat} (ha:a<=i) (hi:i<=s.length) (hsp:splitD 46 (s.drop a)=p.drop j) (hno:∀ k,a<=k->k<i->s[k]? ≠ some 46) (hend:i=s.length\/s[i]?=some 46) :
 p[j]?=some (List.drop a (List.take i s))/\(List.drop a (List.take i s)).length=i - a/\(i=s.length->j+1=p.length)/\(s[i]?=some 46->splitD 46 (s.drop (i+1))=p.drop (j+1)):=by
 have hlen:(List.drop a (List.take i s)).length=i - a:=by simp only [List.length_drop,List.length_take];omega
 have hdt:List.drop a (List.take i s)=(s.drop a).take (i - a):=by rw [List.drop_take]
 rcases hend with he|he
 ·have hneg:Lib.indexByte (s.drop a) 46<0:=(indexByte_neg 46 _).2 fun hm=>by
   obtain ⟨k,hk⟩:=List.getElem?_of_mem hm
   rw [List.getElem?_drop] at hk
   have:=(List.getElem?_eq_some_iff.1 hk).1
   exact hno (a+k) (by omega) (by omega) hk
  have e1:=splitD_one 46 _ hneg
  have e2:=hsp.symm.trans e1
  refine ⟨?_,hlen,fun _=>?_,fun h=>?_⟩
  ·have:=congrArg List.head? e2
   rw [List.head?_drop] at this
   rw [this,hdt,List.take_of_length_le (by simp only [List.length_drop];omega)];rfl
  ·have:=congrArg List.length e2
   simp only [List.length_drop,List.length_cons,List.length_nil] at this;omega
  ·have:=(List.getElem?_eq_some_iff.1 h).1;omega
 ·have hil:=(List.getElem?_eq_some_iff.1 he).1
  have hat:Lib.indexByte (s.drop a) 46=((i - a:Nat):Int):=indexByte_at 46 _ _ (by rw [List.getElem?_drop];rw [show a+(i - a)=i by omega];exact he) fun k hk=>by
   rw [List.getElem?_drop];exact hno (a+k) (by omega) (by omega)
  obtain ⟨e1,_⟩:=splitD_cut 46 _ _ hat
  have e2:=hsp.symm.trans e1
  refine ⟨?_,hlen,fun h=>by omega,fun _=>?_⟩
  ·have:=congrArg List.head? e2
   rw [List.head?_drop] at this
   rw [this,hdt];rfl
  ·have:=congrArg List.tail e2
   rw [List.tail_drop,List.tail_cons,List.drop_drop] at this
   rw [this];congr 2;omega
def ScanI (s:List UInt8) (p:List (List UInt8)) (q:Nat×Nat×Nat):Prop :=
 (q.1<=s.length/\q.2.1<=q.1/\splitD 46 (s.drop q.2.1)=p.drop q.2.2/\(∀ k,q.2.1<=k->k<q.1->s[k]? ≠ some 46)/\scanV p 0 0=scanV (p.drop q.2.2) q.2.2 q.2.1)\/(q.1=s.length+1/\q.2.2=p.length/\scanV p 0 0=none)
theorem step23 (hs:s.length<=2 ^ 30) (hpl:p.length<=2 ^ 30+1) (i a j:Nat) (h:ScanI s p (i,a,j)) (hi:i<=s.length) :
 (∃ q,ScanI s p q/\s.length+1 - q.1<s.length+1 - i/\BodyC Tryz.prog W [] (nslots Tryz.prog 58) (loopOf Tryz.prog 58 0) (S23 s p a i j) .normal (S23 s p q.2.1 q.1 q.2.2)) ∨
 (∃ t:Int,scanV p 0 0=some t/\BodyC Tryz.prog W [] (nslots Tryz.prog 58) (loopOf Tryz.prog 58 0) (S23 s p a i j) .ret (R76 t)):=by
 rcases h with ⟨_,h2,h3,h4,h5⟩|⟨h1,_,_⟩
 case inr=>simp only at h1;omega
 simp only at h2 h3 h4 h5
 have hws:IntKind.i64.wrap ((i:Int)+1)=((i+1:Nat):Int):=wrap_succ (by omega)
 by_cases hl:i<s.length
 ·obtain ⟨y,hy⟩:=getOf hl
  have hget:s[((i:Int)).toNat]?=some y:=by rw [Int.toNat_natCast];exact hy
  by_cases hd:(y.toNat:Int)=46
  case neg =>
   left
   have hne:s[i]? ≠ some 46:=by rw [hy];intro e;simp only [Option.some.injEq] at e;exact hd ((u8_eq y 46 46 rfl).2 e)
   have hsy:(!decide ((y.toNat:Int)=46))=true:=by rw [decide_eq_false hd];rfl
   exact ⟨(i+1,a,j),.inl ⟨by simp only;omega,by simp only;omega,h3,fun k k1 k2=>by
    simp only at k1 k2
    by_cases e:k=i
    ·subst e;exact hne
    ·exact h4 k k1 (by omega),h5⟩,by simp only;omega,body_of_sbodyK mixedz (b23_0 W s p a i j 0 y) Fb5_z5 [] [] Fb5_z1⟩
  have hdot:s[i]?=some 46:=by rw [hy,(u8_eq y 46 46 rfl).1 hd]
  have hsy:(!decide ((y.toNat:Int)=46))=false:=by rw [decide_eq_true hd];rfl
  obtain ⟨g1,g2,_,g4⟩:=scan_head s p h2 hi h3 h4 (.inr hdot)
  have hjl:j<p.length:=(List.getElem?_eq_some_iff.1 g1).1
  generalize hx:List.drop a (List.take i s)=x at g1 g2
  have hc:MutC Tryz.prog W 77 [AV.str (List.drop ((a:Int)).toNat (List.take ((i:Int)).toNat s))] [] (OutC.ret (bA (segB x)) []):=by
   rw [Int.toNat_natCast,Int.toNat_natCast,hx];exact mut_of_pure (by rfl) (segment68 W x (by omega))
  have hxx:AV.str (List.drop ((a:Int)).toNat (List.take ((i:Int)).toNat s))=AV.str x:=by rw [Int.toNat_natCast,Int.toNat_natCast,hx]
  by_cases h16:j=16
  ·exact .inr ⟨a,by rw [h5,scan_stop g1 (.inr h16)],body_of_sbodyK mixedz (b23_1 W s p a i j 0 y) Fb5_z5 [] [] Fb5_z1⟩
  cases e:segB x with
  | false =>
   have hsx:(!segB x)=true:=by rw [e];rfl
   exact .inr ⟨a,by rw [h5,scan_stop g1 (.inl e)],body_of_sbodyK mixedz (b23_2 W s p a i j 0 x y) Fb5_z5 [] [] Fb5_z1⟩
  | true =>
   have hsx:(!segB x)=false:=by rw [e];rfl
   left
   refine ⟨(i+1,i+1,j+1),.inl ⟨by simp only;omega,Nat.le_refl _,g4 hdot,fun k k1 k2=>by simp only at k1 k2;omega,?_⟩,by simp only;omega,body_of_sbodyK mixedz (b23_3 W s p a i j 0 x y) Fb5_z5 [(100000,100002)] [] Fb5_z1⟩
   rw [h5,scan_step g1 (by rintro (h|h);(rw [e] at h;cases h);exact h16 h)]
   simp only;congr 1;omega
 ·have hil:i=s.length:=by omega
  obtain ⟨g1,g2,g3,_⟩:=scan_head s p h2 hi h3 h4 (.inl hil)
  have hjl:j<p.length:=(List.getElem?_eq_some_iff.1 g1).1
  generalize hx:List.drop a (List.take i s)=x at g1 g2
  have hc:MutC Tryz.prog W 77 [AV.str (List.drop ((a:Int)).toNat (List.take ((i:Int)).toNat s))] [] (OutC.ret (bA (segB x)) []):=by
   rw [Int.toNat_natCast,Int.toNat_natCast,hx];exact mut_of_pure (by rfl) (segment68 W x (by omega))
  have hxx:AV.str (List.drop ((a:Int)).toNat (List.take ((i:Int)).toNat s))=AV.str x:=by rw [Int.toNat_natCast,Int.toNat_natCast,hx]
  by_cases h16:j=16
  ·exact .inr ⟨a,by rw [h5,scan_stop g1 (.inr h16)],body_of_sbodyK mixedz (b23_4 W s p a i j 0) Fb5_z5 [] [] Fb5_z1⟩
  cases e:segB x with
  | false =>
   have hsx:(!segB x)=true:=by rw [e];rfl
   exact .inr ⟨a,by rw [h5,scan_stop g1 (.inl e)],body_of_sbodyK mixedz (b23_5 W s p a i j 0 x) Fb5_z5 [] [] Fb5_z1⟩
  | true =>
   have hsx:(!segB x)=false:=by rw [e];rfl
   left
   have hj1:=g3 hil
   refine ⟨(i+1,i+1,j+1),.inr ⟨by simp only;omega,hj1,?_⟩,by simp only;omega,body_of_sbodyK mixedz (b23_6 W s p a i j 0 x) Fb5_z5 [(100000,100002)] [] Fb5_z1⟩
   rw [h5,scan_step g1 (by rintro (h|h);(rw [e] at h;cases h);exact h16 h),hj1,List.drop_length];rfl
theorem loop23 (hs:s.length<=2 ^ 30) (hpl:p.length<=2 ^ 30+1) (hn:scanV p 0 0=none):∀ q,ScanI s p q->LoopC Tryz.prog W [] (nslots Tryz.prog 58) (loopOf Tryz.prog 58 0) (S23 s p q.2.1 q.1 q.2.2) (.exit 0) (E23 p):=by
 refine loopC_inv (fun q:Nat×Nat×Nat=>S23 s p q.2.1 q.1 q.2.2) (ScanI s p) (fun q=>s.length+1 - q.1) (by simp) ?_
 rintro ⟨i,a,j⟩ h
 by_cases hi:i<=s.length
 ·rcases step23 W s p hs hpl i a j h hi with ⟨q,h1,h2,h3⟩|⟨t,h1,_⟩
  ·exact .inl ⟨q,h1,h2,h3⟩
  ·rw [hn] at h1;cases h1
 ·right
  rcases h with ⟨h1,_⟩|⟨h1,h2,_⟩
  ·exact absurd h1 hi
  simp only at h1 h2
  subst h2
  exact body_of_sbodyK mixedz (b23_7 W s p a i p.length 0) Fb5_z5 [] [] Fb5_z1
theorem loopR23 (hs:s.length<=2 ^ 30) (hpl:p.length<=2 ^ 30+1) {t0:Int} (hn:scanV p 0 0=some t0):∀ q,ScanI s p q->LoopC Tryz.prog W [] (nslots Tryz.prog 58) (loopOf Tryz.prog 58 0) (S23 s p q.2.1 q.1 q.2.2) .ret (R76 t0):=by
 refine loopC_inv (fun q:Nat×Nat×Nat=>S23 s p q.2.1 q.1 q.2.2) (ScanI s p) (fun q=>s.length+1 - q.1) (by simp) ?_
 rintro ⟨i,a,j⟩ h
 by_cases hi:i<=s.length
 ·rcases step23 W s p hs hpl i a j h hi with ⟨q,h1,h2,h3⟩|⟨t,h1,h2⟩
  ·exact .inl ⟨q,h1,h2,h3⟩
  ·rw [hn] at h1
   obtain rfl:t0=t:=by simpa using h1
   exact .inr h2
 ·exfalso
  rcases h with ⟨h1,_⟩|⟨_,_,h2⟩
  ·exact hi h1
  ·rw [hn] at h2;cases h2
theorem Parse23 (hs:s.length<=2 ^ 30):Pure Tryz.prog W 58 [.str s] (parseAV s):=by
 have hpl:(splitD 46 s).length<=2 ^ 30+1:=by have:=splitD_len 46 s;have:=countByte_le s 46;omega
 have hI:ScanI s (splitD 46 s) (0,0,0):=.inl ⟨by simp,by simp,by simp,by intro k _ h;simp only at h;omega,by simp⟩
 cases hq:scanV (splitD 46 s) 0 0 with
 | none =>
  have hlp:=loop23 W s _ hs hpl hq (0,0,0) hI
  have h:=mut_of_sfun mixedz call23 rfl (p23_0 W s (splitD 46 s) 0) Fb5_z6
  exact pure_frz [(100000,.arr 9 1 ((splitD 46 s).map AV.str) .own)] h (by intro q hq;simp only [List.mem_singleton] at hq;subst hq;exact ⟨by simp [hg],by simp [Frzable,cloL_str]⟩) (by
   simp [parseAV,parseP,parseE,parseA,hq,clA,clL,lk,iA];try exact List.take_of_length_le (by simp)) rfl
 | some t0 =>
  have hlp:=loopR23 W s _ hs hpl hq (0,0,0) hI
  refine pure_leR ?_ (pure_of_mut (by rfl) (mut_of_sfun mixedz call23 rfl (q23_0 W s (splitD 46 s) t0) Fb5_z6))
  unfold parseAV parseP parseE parseA
  rw [hq]
  exact .tup (.cons (.nil 1) (.cons (.refl _) (.cons (.refl _) .nil)))
end
end Go.Ac

namespace Go.Ac
open Go
set_option maxRecDepth 4000
def restsG (s:List UInt8):List (List (List UInt8))->List (List (List UInt8))->List (List (List UInt8))×Bool
 | out,[]=>(out,false)
 | out,p::l=>if p.head?=some s then (if p.length=1 then ([],true) else restsG s (out++[p.tail]) l) else restsG s out l
def restsV (ps:List (List (List UInt8))) (s:List UInt8):List (List (List UInt8))×Bool:=restsG s [] ps
theorem restsG_out (s:List UInt8):∀ (l out:List (List (List UInt8))),[s] ∉ l->restsG s out l=(out++(l.filter (fun p=>p.head? == some s)).map List.tail,false)
 | [],out,_=>by simp [restsG]
 | p::l,out,h=>by
  have hl:[s] ∉ l:=fun e=>h (by simp [e])
  have hp:p ≠ [s]:=fun e=>h (by simp [e])
  rw [restsG]
  by_cases e:p.head?=some s
  ·have hn:¬ p.length=1:=fun e1=>hp (by
    cases p with
    | nil=>cases e
    | cons t q=>cases q with
     | nil=>simp at e;rw [e]
     | cons _ _=>simp at e1)
   rw [if_pos e,if_neg hn,restsG_out s l _ hl]
   simp [e]
  ·rw [if_neg e,restsG_out s l _ hl]
   simp [e]
theorem restsG_end (s:List UInt8):∀ (l out:List (List (List UInt8))),[s] ∈ l->restsG s out l=([],true)
 | [],out,h=>by cases h
 | p::l,out,h=>by
  rw [restsG]
  by_cases hp:p=[s]
  ·subst hp;simp
  ·have hl:[s] ∈ l:=(List.mem_cons.1 h).resolve_left (Ne.symm hp)
   by_cases e:p.head?=some s
   ·have hn:¬ p.length=1:=fun e1=>hp (by
     cases p with
     | nil=>cases e
     | cons t q=>cases q with
      | nil=>simp at e;rw [e]
      | cons _ _=>simp at e1)
    rw [if_pos e,if_neg hn];exact restsG_end s l _ hl
   ·rw [if_neg e];exact restsG_end s l _ hl
def deepB (v:JV):Bool:=decide (v.kind=6) || decide (v.kind=5)
mutual
def thrV (b:Bool):List (List (List UInt8))->JV->JV
 | ps,.mk h l=>if h.kind=5 then .mk ⟨5,0,[],[]⟩ (thrL b ps l) else if h.kind=6 then .mk ⟨6,0,[],(thrM b ps h.names l).1⟩ (thrM b ps h.names l).2 else .mk h l
def thrL (b:Bool):List (List (List UInt8))->List JV->List JV
 | _,[]=>[]
 | ps,x::l=>if deepB x=true\/b=false then thrV b ps x::thrL b ps l else thrL b ps l
def thrM (b:Bool):List (List (List UInt8))->List (List UInt8)->List JV->List (List UInt8)×List JV
 | _,_,[]=>([],[])
 | _,[],_::_=>([],[])
 | ps,s::ns,x::l =>
  if (b=true/\(restsV ps s).2=true)\/(b=false/\(restsV ps s).2=false/\(restsV ps s).1=[]) then (s::(thrM b ps ns l).1,x::(thrM b ps ns l).2)
  else if (b=true/\((restsV ps s).1=[]\/deepB x=false))\/(b=false/\(restsV ps s).2=true) then thrM b ps ns l
  else (s::(thrM b ps ns l).1,thrV b (restsV ps s).1 x::(thrM b ps ns l).2)
end
end Go.Ac

namespace Go.Ac
open Go
set_option maxRecDepth 4000
end Go.Ac

namespace Go.Ac
open Go Go.Proofs
set_option maxRecDepth 10000
set_option maxHeartbeats 1000000
def S42 (a b:List (List UInt8)) (i:Nat):AS:=⟨[(0,.sl 1 (a.map AV.str) []),(1,.sl 1 (b.map AV.str) []),(5,iA i)],[]⟩
def S29 (a b:List (List UInt8)) (m:Int) (i:Nat):AS:=⟨[(0,.sl 1 (a.map AV.str) []),(1,.sl 1 (b.map AV.str) []),(10,iA m),(11,iA i)],[]⟩
def E0:AS:=⟨[],[]⟩
def R4f:AS:=⟨[(4,bA false)],[]⟩
def u8A (n:Int):AV:=.val (.int .u8 n)
def S48 (s:List UInt8) (n lo hi:Int) (i:Nat):AS:=⟨[(0,.str s),(4,iA n),(5,u8A lo),(6,u8A hi),(7,iA i)],[]⟩
def E48 (n:Int):AS:=⟨[(4,iA n)],[]⟩
def R2i (n:Int):AS:=⟨[(2,iA n)],[]⟩
def R2b (b:Bool):AS:=⟨[(2,bA b)],[]⟩
def S35 (s:List UInt8):AS:=⟨[(0,.str s)],[]⟩
def S36 (l:List (List UInt8)) (s:List UInt8) (i:Nat):AS:=⟨[(0,.sl 1 (l.map AV.str) []),(1,.str s),(5,iA i)],[]⟩
def R4t:AS:=⟨[(4,bA true)],[]⟩
theorem p42_0 (W:World) (a b:List (List UInt8)):sF W {lp:=true} 78 [.sl 1 (a.map AV.str) [],.sl 1 (b.map AV.str) []] [] 100000 [ee,.loopM [] [] (S42 a b 0) (.exit 0) E0,ee] []=.ok (.ret (bA true) [],[ee],[LZ W [] 78 0 (S42 a b 0) (.exit 0) E0,MatchK [] [] [] {t:=[(0,sL 1 (List.map AV.str a)),(1,sL 1 (List.map AV.str b)),(5,iA 0)],h:=[]} (S42 a b 0)]):=kr
theorem r42_0 (W:World) (a b:List (List UInt8)):sF W {lp:=true} 78 [.sl 1 (a.map AV.str) [],.sl 1 (b.map AV.str) []] [] 100000 [ee,.loopM [] [] (S42 a b 0) .ret R4f,ee] []=.ok (.ret (bA false) [],[ee],[LZ W [] 78 0 (S42 a b 0) .ret R4f,MatchK [] [] [] {t:=[(0,sL 1 (List.map AV.str a)),(1,sL 1 (List.map AV.str b)),(5,iA 0)],h:=[]} (S42 a b 0)]):=kr
theorem p29_0 (W:World) (a b:List (List UInt8)) (m:Int):sF W {lp:=true} 75 [.sl 1 (a.map AV.str) [],.sl 1 (b.map AV.str) []] [] 100000 [ee,.loopM [] [] (S29 a b m 0) (.exit 0) E0,ee] []=.ok (.ret (bA true) [],[ee],[LZ W [] 75 0 (S29 a b m 0) (.exit 0) E0,MatchK [] [] [] {t:=[(0,sL 1 (List.map AV.str a)),(1,sL 1 (List.map AV.str b)),(10,iA (if (↑(List.map AV.str b).length:Int)<(↑(List.map AV.str a).length:Int) then (↑(List.map AV.str b).length:Int) else (↑(List.map AV.str a).length:Int))),(11,iA 0)],h:=[]} (S29 a b m 0)]):=kr
theorem r29_0 (W:World) (a b:List (List UInt8)) (m:Int):sF W {lp:=true} 75 [.sl 1 (a.map AV.str) [],.sl 1 (b.map AV.str) []] [] 100000 [ee,.loopM [] [] (S29 a b m 0) .ret R4f,ee] []=.ok (.ret (bA false) [],[ee],[LZ W [] 75 0 (S29 a b m 0) .ret R4f,MatchK [] [] [] {t:=[(0,sL 1 (List.map AV.str a)),(1,sL 1 (List.map AV.str b)),(10,iA (if (↑(List.map AV.str b).length:Int)<(↑(List.map AV.str a).length:Int) then (↑(List.map AV.str b).length:Int) else (↑(List.map AV.str a).length:Int))),(11,iA 0)],h:=[]} (S29 a b m 0)]):=kr
theorem b42_0 (W:World) (a b:List (List UInt8)) (x y:List UInt8) (i:Nat):sQ W {lp:=true} 78 0 [] [0,1,4,5] (S42 a b i) [bt,bt,bt,bt,bt,bt,aE 1,oS (.str x),aE 1,oS (.str y),bt,ee]=.ok ((.ret,{t:=[(0,sL 1 (List.map AV.str a)),(1,sL 1 (List.map AV.str b)),(4,bA false),(5,iA (i:Int))],h:=[]}),[ee],((!decide (x=y))=true)::((List.map AV.str b)[(i:Int).toNat]?=some (AV.str y))::((List.map AV.str a)[(i:Int).toNat]?=some (AV.str x))::(decide ((i:Int)<(↑(List.map AV.str b).length:Int))=true)::(decide ((i:Int)<(↑(List.map AV.str a).length:Int))=true)::(d4 (decide ((i:Int)<(↑(List.map AV.str a).length:Int))=true) [])):=kr
theorem b42_1 (W:World) (a b:List (List UInt8)) (x y:List UInt8) (i:Nat):sQ W {lp:=true} 78 0 [] [0,1,4,5] (S42 a b i) [bt,bt,bt,bt,bt,bt,aE 1,oS (.str x),aE 1,oS (.str y),bf,ee]=.ok ((.normal,{t:=[(0,sL 1 (List.map AV.str a)),(1,sL 1 (List.map AV.str b)),(5,iA (IntKind.i64.wrap ((i:Int)+1)))],h:=[]}),[ee],((!decide (x=y))=false)::((List.map AV.str b)[(i:Int).toNat]?=some (AV.str y))::((List.map AV.str a)[(i:Int).toNat]?=some (AV.str x))::(decide ((i:Int)<(↑(List.map AV.str b).length:Int))=true)::(decide ((i:Int)<(↑(List.map AV.str a).length:Int))=true)::(d4 (decide ((i:Int)<(↑(List.map AV.str a).length:Int))=true) [])):=kr
theorem b42_2 (W:World) (a b:List (List UInt8)) (i:Nat):sQ W {lp:=true} 78 0 [] [0,1,4,5] (S42 a b i) [bt,bt,bt,bt,bt,bf,ee]=.ok ((.exit 0,{t:=[(0,sL 1 (List.map AV.str a)),(1,sL 1 (List.map AV.str b)),(5,iA (i:Int))],h:=[]}),[ee],(decide ((i:Int)<(↑(List.map AV.str b).length:Int))=false)::(decide ((i:Int)<(↑(List.map AV.str a).length:Int))=true)::(d4 (decide ((i:Int)<(↑(List.map AV.str a).length:Int))=true) [])):=kr
theorem b42_3 (W:World) (a b:List (List UInt8)) (i:Nat):sQ W {lp:=true} 78 0 [] [0,1,4,5] (S42 a b i) [bf,bf,bf,bf,bf,ee]=.ok ((.exit 0,{t:=[(0,sL 1 (List.map AV.str a)),(1,sL 1 (List.map AV.str b)),(5,iA (i:Int))],h:=[]}),[aE 9999999],(decide ((i:Int)<(↑(List.map AV.str a).length:Int))=false)::(d4 (decide ((i:Int)<(↑(List.map AV.str a).length:Int))=false) [])):=kr
theorem b29_0 (W:World) (a b:List (List UInt8)) (x y:List UInt8) (i:Nat) (m:Int):sQ W {lp:=true} 75 0 [] [0,1,4,10,11] (S29 a b m i) [bt,aE 1,oS (.str x),aE 1,oS (.str y),bt,ee]=.ok ((.ret,{t:=[(0,sL 1 (List.map AV.str a)),(1,sL 1 (List.map AV.str b)),(4,bA false),(10,iA m),(11,iA (i:Int))],h:=[]}),[ee],[(!decide (x=y))=true,(List.map AV.str b)[(i:Int).toNat]?=some (AV.str y),(List.map AV.str a)[(i:Int).toNat]?=some (AV.str x),decide ((i:Int)<m)=true]):=kr
theorem b29_1 (W:World) (a b:List (List UInt8)) (x y:List UInt8) (i:Nat) (m:Int):sQ W {lp:=true} 75 0 [] [0,1,4,10,11] (S29 a b m i) [bt,aE 1,oS (.str x),aE 1,oS (.str y),bf,ee]=.ok ((.normal,{t:=[(0,sL 1 (List.map AV.str a)),(1,sL 1 (List.map AV.str b)),(10,iA m),(11,iA (IntKind.i64.wrap ((i:Int)+1)))],h:=[]}),[ee],[(!decide (x=y))=false,(List.map AV.str b)[(i:Int).toNat]?=some (AV.str y),(List.map AV.str a)[(i:Int).toNat]?=some (AV.str x),decide ((i:Int)<m)=true]):=kr
theorem b29_2 (W:World) (a b:List (List UInt8)) (i:Nat) (m:Int):sQ W {lp:=true} 75 0 [] [0,1,4,10,11] (S29 a b m i) [bf,ee]=.ok ((.exit 0,{t:=[(0,sL 1 (List.map AV.str a)),(1,sL 1 (List.map AV.str b)),(10,iA m),(11,iA (i:Int))],h:=[]}),[ee],[decide ((i:Int)<m)=false]):=kr
theorem Ha1_z1 {kp f ph σ σ'} (h:MatchK kp f ph σ σ':=by exact ⟨by rfl,(by simp only [S42,S29,E0,R4f,S48,E48,R2i,R2b,S35,S36,R4t,u8A,tOK,List.map_cons,List.map_nil,and_true]<;>exact zt),(by simp only [S42,S29,E0,R4f,S48,E48,R2i,R2b,S35,S36,R4t,u8A,hOK,List.map_cons,List.map_nil,and_true]<;>exact zh),(by simp only [S42,S29,E0,R4f,S48,E48,R2i,R2b,S35,S36,R4t,u8A,liveT,List.map_cons,List.map_nil,and_true]<;>exact zv),(by simp only [S42,S29,E0,R4f,S48,E48,R2i,R2b,S35,S36,R4t,u8A,liveH,List.map_cons,List.map_nil,and_true]<;>exact zv)⟩):MatchK kp f ph σ σ':=h
theorem Ha1_z2 {cs} (h:Holds cs:=by simp only [Holds,and_true]<;>and_intros<;>first|assumption|exact zd|exact Ha1_z1):Holds cs:=h
theorem call42h:callable Tryz.prog 78=true:=kr
theorem call29h:callable Tryz.prog 75=true:=kr
section
variable (W:World)
theorem clash_drop {a b:List (List UInt8)} {i:Nat} {x y:List UInt8} (hx:a[i]?=some x) (hy:b[i]?=some y):clashB (a.drop i) (b.drop i)=if x=y then clashB (a.drop (i+1)) (b.drop (i+1)) else false:=by
 rw [drop_get hx,drop_get hy,clashB]
theorem clash42 (a b:List (List UInt8)) (ha:a.length<2 ^ 62):Pure Tryz.prog W 78 [.sl 1 (a.map AV.str) [],.sl 1 (b.map AV.str) []] (bA (clashB a b)):=by
 have loop:∀ (j i:Nat),a.length - i=j->i<=a.length->(clashB (a.drop i) (b.drop i)=true/\LoopC Tryz.prog W [] (nslots Tryz.prog 78) (loopOf Tryz.prog 78 0) (S42 a b i) (.exit 0) E0)\/(clashB (a.drop i) (b.drop i)=false/\LoopC Tryz.prog W [] (nslots Tryz.prog 78) (loopOf Tryz.prog 78 0) (S42 a b i) .ret R4f):=by
  intro j
  induction j with
  | zero =>
   intro i hj hi
   have e:decide ((i:Int)<((List.map AV.str a).length:Int))=false:=by rw [List.length_map];exact decide_eq_false (by omega)
   exact .inl ⟨by rw [List.drop_of_length_le (l:=a) (by omega)];rfl,loop_last (by simp) (body_of_sbodyK mixedz (b42_3 W a b i) Ha1_z2 [] [] Ha1_z1)⟩
  | succ j ih =>
   intro i hj hi
   obtain ⟨x,hx⟩:=getOf (l:=a) (i:=i) (by omega)
   have e:decide ((i:Int)<((List.map AV.str a).length:Int))=true:=by rw [List.length_map];exact decide_eq_true (by omega)
   have hget:(List.map AV.str a)[((i:Int)).toNat]?=some (AV.str x):=by rw [Int.toNat_natCast];exact strs_get hx
   have hws:IntKind.i64.wrap ((i:Int)+1)=((i+1:Nat):Int):=wrap_succ (by omega)
   by_cases hb:i<b.length
   ·obtain ⟨y,hy⟩:=getOf (l:=b) (i:=i) hb
    have e2:decide ((i:Int)<((List.map AV.str b).length:Int))=true:=by rw [List.length_map];exact decide_eq_true (by omega)
    have hget2:(List.map AV.str b)[((i:Int)).toNat]?=some (AV.str y):=by rw [Int.toNat_natCast];exact strs_get hy
    rw [clash_drop hx hy]
    by_cases h:x=y
    ·have c:(!decide (x=y))=false:=by rw [decide_eq_true h];rfl
     rw [if_pos h]
     rcases ih (i+1) (by omega) (by omega) with ⟨g1,g2⟩|⟨g1,g2⟩
     ·exact .inl ⟨g1,loop_next (body_of_sbodyK mixedz (b42_1 W a b x y i) Ha1_z2 [] [] Ha1_z1) g2⟩
     ·exact .inr ⟨g1,loop_next (body_of_sbodyK mixedz (b42_1 W a b x y i) Ha1_z2 [] [] Ha1_z1) g2⟩
    ·have c:(!decide (x=y))=true:=by rw [decide_eq_false h];rfl
     rw [if_neg h]
     exact .inr ⟨rfl,loop_last (by simp) (body_of_sbodyK mixedz (b42_0 W a b x y i) Ha1_z2 [] [] Ha1_z1)⟩
   ·have e2:decide ((i:Int)<((List.map AV.str b).length:Int))=false:=by rw [List.length_map];exact decide_eq_false (by omega)
    refine .inl ⟨?_,loop_last (by simp) (body_of_sbodyK mixedz (b42_2 W a b i) Ha1_z2 [] [] Ha1_z1)⟩
    rw [List.drop_of_length_le (l:=b) (by omega)]
    cases a.drop i<;>rfl
 rcases loop a.length 0 (by omega) (by omega) with ⟨g,hlp⟩|⟨g,hlp⟩
 ·rw [show clashB a b=true by simpa using g]
  exact pure_of_mut rfl (mut_of_sfun mixedz call42h rfl (p42_0 W a b) Ha1_z2)
 ·rw [show clashB a b=false by simpa using g]
  exact pure_of_mut rfl (mut_of_sfun mixedz call42h rfl (r42_0 W a b) Ha1_z2)
theorem clash29 (a b:List (List UInt8)) (ha:a.length<2 ^ 62):Pure Tryz.prog W 75 [.sl 1 (a.map AV.str) [],.sl 1 (b.map AV.str) []] (bA (clashB a b)):=by
 obtain ⟨m,hm⟩:∃ m:Int,m=(if ((List.map AV.str b).length:Int)<((List.map AV.str a).length:Int) then ((List.map AV.str b).length:Int) else ((List.map AV.str a).length:Int)):=⟨_,rfl⟩
 have hm1:m=if b.length<a.length then (b.length:Int) else (a.length:Int):=by rw [hm,List.length_map,List.length_map];split<;>split<;>omega
 have loop:∀ (j i:Nat),a.length - i=j->i<=a.length->i<=b.length->(clashB (a.drop i) (b.drop i)=true/\LoopC Tryz.prog W [] (nslots Tryz.prog 75) (loopOf Tryz.prog 75 0) (S29 a b m i) (.exit 0) E0)\/(clashB (a.drop i) (b.drop i)=false/\LoopC Tryz.prog W [] (nslots Tryz.prog 75) (loopOf Tryz.prog 75 0) (S29 a b m i) .ret R4f):=by
  intro j
  induction j with
  | zero =>
   intro i hj hi hib
   have e:decide ((i:Int)<m)=false:=decide_eq_false (by split at hm1<;>omega)
   exact .inl ⟨by rw [List.drop_of_length_le (l:=a) (by omega)];rfl,loop_last (by simp) (body_of_sbodyK mixedz (b29_2 W a b i m) Ha1_z2 [] [] Ha1_z1)⟩
  | succ j ih =>
   intro i hj hi hib
   have hws:IntKind.i64.wrap ((i:Int)+1)=((i+1:Nat):Int):=wrap_succ (by omega)
   by_cases hb:i<b.length
   ·obtain ⟨x,hx⟩:=getOf (l:=a) (i:=i) (by omega)
    have hget:(List.map AV.str a)[((i:Int)).toNat]?=some (AV.str x):=by rw [Int.toNat_natCast];exact strs_get hx
    obtain ⟨y,hy⟩:=getOf (l:=b) (i:=i) hb
    have hget2:(List.map AV.str b)[((i:Int)).toNat]?=some (AV.str y):=by rw [Int.toNat_natCast];exact strs_get hy
    have e:decide ((i:Int)<m)=true:=decide_eq_true (by split at hm1<;>omega)
    rw [clash_drop hx hy]
    by_cases h:x=y
    ·have c:(!decide (x=y))=false:=by rw [decide_eq_true h];rfl
     rw [if_pos h]
     rcases ih (i+1) (by omega) (by omega) (by omega) with ⟨g1,g2⟩|⟨g1,g2⟩
     ·exact .inl ⟨g1,loop_next (body_of_sbodyK mixedz (b29_1 W a b x y i m) Ha1_z2 [] [] Ha1_z1) g2⟩
     ·exact .inr ⟨g1,loop_next (body_of_sbodyK mixedz (b29_1 W a b x y i m) Ha1_z2 [] [] Ha1_z1) g2⟩
    ·have c:(!decide (x=y))=true:=by rw [decide_eq_false h];rfl
     rw [if_neg h]
     exact .inr ⟨rfl,loop_last (by simp) (body_of_sbodyK mixedz (b29_0 W a b x y i m) Ha1_z2 [] [] Ha1_z1)⟩
   ·have e:decide ((i:Int)<m)=false:=decide_eq_false (by split at hm1<;>omega)
    refine .inl ⟨?_,loop_last (by simp) (body_of_sbodyK mixedz (b29_2 W a b i m) Ha1_z2 [] [] Ha1_z1)⟩
    rw [List.drop_of_length_le (l:=b) (by omega)]
    cases a.drop i<;>rfl
 rcases loop a.length 0 (by omega) (by omega) (by omega) with ⟨g,hlp⟩|⟨g,hlp⟩
 ·rw [show clashB a b=true by simpa using g]
  refine pure_of_mut rfl (mut_of_sfun mixedz call29h rfl (p29_0 W a b m) ?_)
  rw [<-hm];exact Ha1_z2
 ·rw [show clashB a b=false by simpa using g]
  refine pure_of_mut rfl (mut_of_sfun mixedz call29h rfl (r29_0 W a b m) ?_)
  rw [<-hm];exact Ha1_z2
end
end Go.Ac

namespace Go.Ac
open Go Go.Proofs
set_option maxRecDepth 10000
set_option maxHeartbeats 1000000
theorem Fr1_z1 {cs} (h:Holds cs:=by simp only [Holds,and_true]<;>and_intros<;>first|exact zd):Holds cs:=h
def S60 (h:JH) (l:List JV) (m n i:Int):AS:=⟨[(1,iA m),(2,.gp 100000 0),(5,iA n),(6,iA i)],[(100000,.box (encV (.mk h l)) .own)]⟩
theorem b60_0 (W:World) (h:JH) (l:List JV) (m n i:Int) (h1:JH) (l1:List JV) (x:Int):sbody Tryz.prog W {tl:=[13],lp:=true} 13 0 [] [1,2,5,6] (S60 h l m n i) [bt,bt,bt,bt,bt,.lg,oS (eV h1 l1),ee,cR (iA x) [],ee]=.ok ((.normal,{t:=[(1,iA m),(2,.gp 100000 0),(5,.val (Value.int IntKind.i64 (IntKind.i64.wrap (n+x)))),(6,.val (Value.int IntKind.i64 (IntKind.i64.wrap (i+1))))],h:=[(100000,gB (eV h l))]}),[ee],MZ W 13 [.agg [.val (Value.int IntKind.i64 h1.kind),.val (Value.int IntKind.i64 h1.int),.str h1.3,sL 1 (List.map AV.str h1.names),sL 5 (encVs l1)],.val (Value.int IntKind.i64 (IntKind.i64.wrap (m - n)))] [] (.ret (iA x) [])::((encVs l)[i.toNat]?=some (eV h1 l1))::(0<=i)::(decide (n<=m)=true)::(d4 (decide (i<(↑(encVs l).length:Int))=true) [])):=kr
theorem e60_1 (W:World) (h:JH) (l:List JV) (m n i:Int):sbody Tryz.prog W {tl:=[13],lp:=true} 13 0 [] [5] (S60 h l m n i) [bt,bt,bt,bt,bf,ee]=.ok ((.exit 0,{t:=[(5,iA n)],h:=[]}),[ee],(decide (n<=m)=false)::(d4 (decide (i<(↑(encVs l).length:Int))=true) [])):=kr
theorem e60_2 (W:World) (h:JH) (l:List JV) (m n i:Int):sbody Tryz.prog W {tl:=[13],lp:=true} 13 0 [] [5] (S60 h l m n i) [bf,bf,bf,bf,ee]=.ok ((.exit 0,{t:=[(5,iA n)],h:=[]}),[aE 9999999],d4 (decide (i<(↑(encVs l).length:Int))=false) []):=kr
theorem p60_0 (W:World) (h:JH) (l:List JV) (m r:Int):sfun Tryz.prog W {tl:=[13],lp:=true} 1000 5 13 [eV h l,iA m] [] 100000 [ee,Ans.loop [1,2,5,6] (.exit 0) {t:=[(5,iA r)],h:=[]},ee] []=.ok (.ret (.val (Value.int IntKind.i64 r)) [],[ee],[LZ W [] 13 0 {t:=[(1,iA m),(2,.gp 100000 0),(5,.val (Value.int IntKind.i64 (IntKind.i64.wrap (1+(↑(List.map AV.str h.names).length:Int))))),(6,.val (Value.int IntKind.i64 0))],h:=[(100000,gB (.agg [.val (Value.int IntKind.i64 h.kind),.val (Value.int IntKind.i64 h.int),.str h.3,sL 1 (List.map AV.str h.names),sL 5 (encVs l)]))]} (.exit 0) {t:=[(5,iA r)],h:=[]}]):=kr
theorem call60:callable Tryz.prog 13=true:=kr
theorem loop60 (W:World) (h:JH) (l:List JV) (m r:Int) (hm:0<=m) (hm2:m<=2 ^ 32) (hv:okVs l) (hl:l.length<=2 ^ 50)
 (ih:∀ (i:Nat) (x:JV) (k:Int),l[i]?=some x->0<=k->k<=2 ^ 32->Pure Tryz.prog W 13 [encV x,iA k] (iA (partsV x k))) :
 ∀ q:Nat×Int,(q.1<=l.length/\r=partsL (l.drop q.1) m q.2/\1<=q.2/\q.2<=m+1+2 ^ 50)->LoopC Tryz.prog W [] (nslots Tryz.prog 13) (loopOf Tryz.prog 13 0) (S60 h l m q.2 q.1) (.exit 0) ⟨[(5,iA r)],[]⟩:=by
 refine loopC_inv (fun q:Nat×Int=>S60 h l m q.2 q.1) (fun q=>q.1<=l.length/\r=partsL (l.drop q.1) m q.2/\1<=q.2/\q.2<=m+1+2 ^ 50) (fun q=>l.length - q.1) (by simp) ?_
 rintro ⟨i,n⟩ ⟨h1,h2,h3,h4⟩
 simp only at h1 h2 h3 h4 ⊢
 by_cases hi:i<l.length
 ·obtain ⟨x,hx⟩:=getOf hi
  have hp:=partsL_bd
  by_cases hn:n<=m
  ·left
   have hb:=partsV_bd x (m - n) (okVs_get hv hx) (by omega)
   have hih:=ih i x (m - n) hx (by omega) (by omega)
   refine ⟨(i+1,n+partsV x (m - n)),⟨by simp only;omega,?_,by simp only;omega,by simp only;omega⟩,by simp only;omega,?_⟩
   ·rw [h2,drop_get hx,partsL,if_pos hn]
   ·cases x with
    | mk h1 l1 =>
     refine body_of_sbody mixedz (b60_0 W h l m n i h1 l1 (partsV (.mk h1 l1) (m - n))) (by simp only [Holds,and_true];all_goals (and_intros<;>first|exact .inl trivial|(rw [Int.toNat_natCast];exact encVs_get hx;done)|(rw [wrap_in (by omega)];exact mut_of_pure (by rfl) hih;done) |exact trivial|assumption|(simp only [decide_eq_true_eq,decide_eq_false_iff_not,Bool.not_eq_true',Bool.not_eq_false',encVs_len,List.length_map];omega)|omega)) ?_
     rw [wrap_in (by omega),wrap_in (by omega)];rfl
  ·right
   refine body_of_sbody mixedz (e60_1 W h l m n i) Fr1_z1 ?_
   rw [h2,drop_get hx,partsL,if_neg hn]
 ·right
  refine body_of_sbody mixedz (e60_2 W h l m n i) Fr1_z1 ?_
  rw [h2,List.drop_of_length_le (by omega)];rfl
theorem parts60 (W:World):∀ (k:Nat) (v:JV) (m:Int),sizeV v<k->okV v->0<=m->m<=2 ^ 32->Pure Tryz.prog W 13 [encV v,iA m] (iA (partsV v m))
 | 0,_,_,h,_,_,_=>by omega
 | k+1,.mk h l,m,hk,hv,h1,h2=>by
  have hn:=okV_nm hv
  have hl:=okV_ln hv
  simp only [JV.names,JV.hd,JV.items] at hn hl
  have hlp:=loop60 W h l m (partsV (.mk h l) m) h1 h2 hv.2.2 hl (fun i x k' hx h3 h4=>parts60 W k x k' (by have:=sizeV_item (v:=.mk h l) hx;omega) (okVs_get hv.2.2 hx) h3 h4) (0,1+h.names.length) ⟨by simp,by simp only [List.drop_zero];rfl,by simp only;omega,by simp only;omega⟩
  refine pure_of_mut rfl (mut_of_sfun mixedz call60 rfl (p60_0 W h l m (partsV (.mk h l) m)) ⟨?_,trivial⟩)
  rw [wrap_in (by simp only [List.length_map];omega),List.length_map]
  exact hlp
theorem parts (W:World) (v:JV) (m:Int) (hv:okV v) (h1:0<=m) (h2:m<=2 ^ 32):Pure Tryz.prog W 13 [encV v,iA m] (iA (partsV v m)):=parts60 W _ v m (Nat.lt_succ_self _) hv h1 h2
end Go.Ac

namespace Go.Ac
open Go Go.Proofs
set_option maxRecDepth 10000
set_option maxHeartbeats 1000000
theorem Fr3_z1 {kp f ph σ σ'} (h:MatchK kp f ph σ σ':=by exact ⟨by rfl,(by simp only [S67,H67,R67,tOK,List.map_cons,List.map_nil,and_true]<;>exact zt),(by simp only [S67,H67,R67,hOK,List.map_cons,List.map_nil,and_true]<;>exact zh),(by simp only [S67,H67,R67,liveT,List.map_cons,List.map_nil,and_true]<;>exact zv),(by simp only [S67,H67,R67,liveH,List.map_cons,List.map_nil,and_true]<;>exact zv)⟩):MatchK kp f ph σ σ':=h
theorem Fr3_z3 {cs} (h:Holds cs:=by simp only [Holds,and_true]<;>and_intros<;>first|exact zd|(simp only [Bool.not_eq_true',decide_eq_false_iff_not,Bool.not_eq_false',decide_eq_true_eq,Bool.not_true,Bool.not_false];done)|(exact hn;done)|(exact hi;done)|(simp only [Bool.not_eq_true',decide_eq_false_iff_not,Bool.not_eq_false',decide_eq_true_eq,Bool.not_true,Bool.not_false];first|assumption|rfl|omega;done)|(rw [Int.toNat_natCast];first|exact strs_get hx|exact strs_get hy|exact encVs_get hx|exact encVs_get hy;done)|(exact mut_of_pure (by rfl) hih;done)|(simp only [Bool.not_eq_true',decide_eq_false_iff_not,Bool.not_eq_false',decide_eq_true_eq,Bool.not_true,Bool.not_false];simp only [encVs_len,List.length_map,Int.natCast_inj];first|assumption|omega;done)|(simp only [decide_eq_true_eq,decide_eq_false_iff_not,Bool.not_eq_true',Bool.not_eq_false',encVs_len,List.length_map];omega)):Holds cs:=h
theorem Fr3_z4 {cs} (h:Holds cs:=by simp only [Holds,and_true]<;>and_intros<;>first|exact zd|(simp only [Bool.not_eq_true',decide_eq_false_iff_not,Bool.not_eq_false',decide_eq_true_eq,Bool.not_true,Bool.not_false];done)|(exact hn;done)|(exact hi;done)|(simp only [Bool.not_eq_true',decide_eq_false_iff_not,Bool.not_eq_false',decide_eq_true_eq,Bool.not_true,Bool.not_false];first|assumption|rfl|omega;done)|(rw [Int.toNat_natCast];first|exact strs_get hx|exact strs_get hy|exact encVs_get hx|exact encVs_get hy;done)|(exact mut_of_pure (by rfl) hih;done)|(simp only [Bool.not_eq_true',decide_eq_false_iff_not,Bool.not_eq_false',decide_eq_true_eq,Bool.not_true,Bool.not_false];simp only [encVs_len,List.length_map,Int.natCast_inj];first|assumption|omega;done)|exact Fr3_z1|(simp only [decide_eq_true_eq,decide_eq_false_iff_not,Bool.not_eq_true',Bool.not_eq_false',encVs_len,List.length_map];omega)):Holds cs:=h
def H67 (h:JH) (l:List JV) (g:JH) (k:List JV):List (Nat×GE):=[(100000,.box (encV (.mk h l)) .own),(100001,.box (encV (.mk g k)) .own)]
def S67 (h:JH) (l:List JV) (g:JH) (k:List JV) (s i:Nat):AS:=⟨[(2,.gp 100000 0),(3,.gp 100001 0),(s,iA i)],H67 h l g k⟩
def R67:AS:=⟨[(4,bA false)],[]⟩
theorem n67_0 (W:World) (h:JH) (l:List JV) (g:JH) (k:List JV) (i:Nat) (x y:List UInt8):sbodyM Tryz.prog W {tl:=[23],lp:=true} 23 0 [] (S67 h l g k 5 i) [bt,aE 1,oS (.str x),aE 1,oS (.str y),bt,ee]=.ok ((.ret,{t:=[(2,.gp 100000 0),(3,.gp 100001 0),(4,.val (Value.bool false)),(5,iA (i:Int)),(44,.val (Value.int IntKind.i64 (i:Int))),(45,.gp 100000 3),(46,sL 1 (List.map AV.str h.names)),(47,.val (Value.int IntKind.i64 (↑(List.map AV.str h.names).length:Int))),(48,.val (Value.bool (decide ((i:Int)<(↑(List.map AV.str h.names).length:Int))))),(51,.gp 100000 3),(52,sL 1 (List.map AV.str h.names)),(53,.val (Value.int IntKind.i64 (i:Int))),(54,(AV.str x).ip 0),(55,.str x),(56,.gp 100001 3),(57,sL 1 (List.map AV.str g.names)),(58,.val (Value.int IntKind.i64 (i:Int))),(59,(AV.str y).ip 0),(60,.str y),(61,.val (Value.bool !decide (x=y)))],h:=[(100000,gB (eV h l)),(100001,gB (eV g k))]}),[ee],[(!decide (x=y))=true,(List.map AV.str g.names)[(i:Int).toNat]?=some (AV.str y),(List.map AV.str h.names)[(i:Int).toNat]?=some (AV.str x),decide ((i:Int)<(↑(List.map AV.str h.names).length:Int))=true]):=kr
theorem n67_1 (W:World) (h:JH) (l:List JV) (g:JH) (k:List JV) (i:Nat) (x y:List UInt8):sbodyM Tryz.prog W {tl:=[23],lp:=true} 23 0 [] (S67 h l g k 5 i) [bt,aE 1,oS (.str x),aE 1,oS (.str y),bf,ee]=.ok ((.normal,{t:=[(2,.gp 100000 0),(3,.gp 100001 0),(5,.val (Value.int IntKind.i64 (IntKind.i64.wrap ((i:Int)+1)))),(44,.val (Value.int IntKind.i64 (i:Int))),(45,.gp 100000 3),(46,sL 1 (List.map AV.str h.names)),(47,.val (Value.int IntKind.i64 (↑(List.map AV.str h.names).length:Int))),(48,.val (Value.bool (decide ((i:Int)<(↑(List.map AV.str h.names).length:Int))))),(49,.val (Value.int IntKind.i64 (i:Int))),(50,.val (Value.int IntKind.i64 (IntKind.i64.wrap ((i:Int)+1)))),(51,.gp 100000 3),(52,sL 1 (List.map AV.str h.names)),(53,.val (Value.int IntKind.i64 (i:Int))),(54,(AV.str x).ip 0),(55,.str x),(56,.gp 100001 3),(57,sL 1 (List.map AV.str g.names)),(58,.val (Value.int IntKind.i64 (i:Int))),(59,(AV.str y).ip 0),(60,.str y),(61,.val (Value.bool !decide (x=y)))],h:=[(100000,gB (eV h l)),(100001,gB (eV g k))]}),[ee],[(!decide (x=y))=false,(List.map AV.str g.names)[(i:Int).toNat]?=some (AV.str y),(List.map AV.str h.names)[(i:Int).toNat]?=some (AV.str x),decide ((i:Int)<(↑(List.map AV.str h.names).length:Int))=true]):=kr
theorem n67_2 (W:World) (h:JH) (l:List JV) (g:JH) (k:List JV) (i:Nat):sbodyM Tryz.prog W {tl:=[23],lp:=true} 23 0 [] (S67 h l g k 5 i) [bf,ee]=.ok ((.exit 0,{t:=[(2,.gp 100000 0),(3,.gp 100001 0),(5,iA (i:Int)),(44,.val (Value.int IntKind.i64 (i:Int))),(45,.gp 100000 3),(46,sL 1 (List.map AV.str h.names)),(47,.val (Value.int IntKind.i64 (↑(List.map AV.str h.names).length:Int))),(48,.val (Value.bool (decide ((i:Int)<(↑(List.map AV.str h.names).length:Int)))))],h:=[(100000,gB (eV h l)),(100001,gB (eV g k))]}),[ee],[decide ((i:Int)<(↑(List.map AV.str h.names).length:Int))=false]):=kr
theorem i67_0 (W:World) (h:JH) (l:List JV) (g:JH) (k:List JV) (i:Nat) (h1:JH) (l1:List JV) (h2:JH) (l2:List JV) (b:Bool):sbodyM Tryz.prog W {tl:=[23],lp:=true} 23 1 [] (S67 h l g k 6 i) [bt,aE 1,oS (eV h1 l1),aE 1,oS (eV h2 l2),ee,cR (bA b) [],bt,ee]=.ok ((.ret,{t:=[(2,.gp 100000 0),(3,.gp 100001 0),(4,.val (Value.bool false)),(6,iA (i:Int)),(62,.val (Value.int IntKind.i64 (i:Int))),(63,.gp 100000 4),(64,sL 5 (encVs l)),(65,.val (Value.int IntKind.i64 (↑(encVs l).length:Int))),(66,.val (Value.bool (decide ((i:Int)<(↑(encVs l).length:Int))))),(69,.gp 100000 4),(70,sL 5 (encVs l)),(71,.val (Value.int IntKind.i64 (i:Int))),(72,(eV h1 l1).ip 0),(73,.agg [.val (Value.int IntKind.i64 h1.kind),.val (Value.int IntKind.i64 h1.int),.str h1.3,sL 1 (List.map AV.str h1.names),sL 5 (encVs l1)]),(74,.gp 100001 4),(75,sL 5 (encVs k)),(76,.val (Value.int IntKind.i64 (i:Int))),(77,(eV h2 l2).ip 0),(78,.agg [.val (Value.int IntKind.i64 h2.kind),.val (Value.int IntKind.i64 h2.int),.str h2.3,sL 1 (List.map AV.str h2.names),sL 5 (encVs l2)]),(79,.val (Value.bool b)),(80,.val (Value.bool !b))],h:=[(100000,gB (eV h l)),(100001,gB (eV g k))]}),[ee],[(!b)=true,MZ W 23 [.agg [.val (Value.int IntKind.i64 h1.kind),.val (Value.int IntKind.i64 h1.int),.str h1.3,sL 1 (List.map AV.str h1.names),sL 5 (encVs l1)],.agg [.val (Value.int IntKind.i64 h2.kind),.val (Value.int IntKind.i64 h2.int),.str h2.3,sL 1 (List.map AV.str h2.names),sL 5 (encVs l2)]] [] (.ret (bA b) []),(encVs k)[(i:Int).toNat]?=some (eV h2 l2),(encVs l)[(i:Int).toNat]?=some (eV h1 l1),decide ((i:Int)<(↑(encVs l).length:Int))=true]):=kr
theorem i67_1 (W:World) (h:JH) (l:List JV) (g:JH) (k:List JV) (i:Nat) (h1:JH) (l1:List JV) (h2:JH) (l2:List JV) (b:Bool):sbodyM Tryz.prog W {tl:=[23],lp:=true} 23 1 [] (S67 h l g k 6 i) [bt,aE 1,oS (eV h1 l1),aE 1,oS (eV h2 l2),ee,cR (bA b) [],bf,ee]=.ok ((.normal,{t:=[(2,.gp 100000 0),(3,.gp 100001 0),(6,.val (Value.int IntKind.i64 (IntKind.i64.wrap ((i:Int)+1)))),(62,.val (Value.int IntKind.i64 (i:Int))),(63,.gp 100000 4),(64,sL 5 (encVs l)),(65,.val (Value.int IntKind.i64 (↑(encVs l).length:Int))),(66,.val (Value.bool (decide ((i:Int)<(↑(encVs l).length:Int))))),(67,.val (Value.int IntKind.i64 (i:Int))),(68,.val (Value.int IntKind.i64 (IntKind.i64.wrap ((i:Int)+1)))),(69,.gp 100000 4),(70,sL 5 (encVs l)),(71,.val (Value.int IntKind.i64 (i:Int))),(72,(eV h1 l1).ip 0),(73,.agg [.val (Value.int IntKind.i64 h1.kind),.val (Value.int IntKind.i64 h1.int),.str h1.3,sL 1 (List.map AV.str h1.names),sL 5 (encVs l1)]),(74,.gp 100001 4),(75,sL 5 (encVs k)),(76,.val (Value.int IntKind.i64 (i:Int))),(77,(eV h2 l2).ip 0),(78,.agg [.val (Value.int IntKind.i64 h2.kind),.val (Value.int IntKind.i64 h2.int),.str h2.3,sL 1 (List.map AV.str h2.names),sL 5 (encVs l2)]),(79,.val (Value.bool b)),(80,.val (Value.bool !b))],h:=[(100000,gB (eV h l)),(100001,gB (eV g k))]}),[ee],[(!b)=false,MZ W 23 [.agg [.val (Value.int IntKind.i64 h1.kind),.val (Value.int IntKind.i64 h1.int),.str h1.3,sL 1 (List.map AV.str h1.names),sL 5 (encVs l1)],.agg [.val (Value.int IntKind.i64 h2.kind),.val (Value.int IntKind.i64 h2.int),.str h2.3,sL 1 (List.map AV.str h2.names),sL 5 (encVs l2)]] [] (.ret (bA b) []),(encVs k)[(i:Int).toNat]?=some (eV h2 l2),(encVs l)[(i:Int).toNat]?=some (eV h1 l1),decide ((i:Int)<(↑(encVs l).length:Int))=true]):=kr
theorem i67_2 (W:World) (h:JH) (l:List JV) (g:JH) (k:List JV) (i:Nat):sbodyM Tryz.prog W {tl:=[23],lp:=true} 23 1 [] (S67 h l g k 6 i) [bf,ee]=.ok ((.exit 2,{t:=[(2,.gp 100000 0),(3,.gp 100001 0),(6,iA (i:Int)),(62,.val (Value.int IntKind.i64 (i:Int))),(63,.gp 100000 4),(64,sL 5 (encVs l)),(65,.val (Value.int IntKind.i64 (↑(encVs l).length:Int))),(66,.val (Value.bool (decide ((i:Int)<(↑(encVs l).length:Int)))))],h:=[(100000,gB (eV h l)),(100001,gB (eV g k))]}),[ee],[decide ((i:Int)<(↑(encVs l).length:Int))=false]):=kr
theorem q67_0 (W:World) (h:JH) (l:List JV) (g:JH) (k:List JV):sfun Tryz.prog W {tl:=[23],lp:=true} 1000 5 23 [eV h l,eV g k] [] 100000 [bt,bt,bt,bt,bt,bt,ee] []=.ok (.ret (.val (Value.bool false)) [],[aE 9999977],d6 ((!decide (h.kind=g.kind))=true) []):=kr
theorem q67_1 (W:World) (h:JH) (l:List JV) (g:JH) (k:List JV):sfun Tryz.prog W {tl:=[23],lp:=true} 1000 5 23 [eV h l,eV g k] [] 100000 [bf,bf,bf,bf,bf,bf,bt,bt,bt,bt,bt,bt,ee] []=.ok (.ret (.val (Value.bool false)) [],[aE 9999983],d6 ((!decide (h.int=g.int))=true) (d6 ((!decide (h.kind=g.kind))=false) [])):=kr
theorem q67_2 (W:World) (h:JH) (l:List JV) (g:JH) (k:List JV):sfun Tryz.prog W {tl:=[23],lp:=true} 1000 5 23 [eV h l,eV g k] [] 100000 [bf,bf,bf,bf,bf,bf,bf,bf,bf,bf,bf,bf,bt,bt,bt,bt,bt,bt,bt,bt,ee] []=.ok (.ret (.val (Value.bool false)) [],[aE 9999991],d2 ((!decide (h.text=g.text))=true) (d6 ((!decide (h.text=g.text))=true) (d6 ((!decide (h.int=g.int))=false) (d6 ((!decide (h.kind=g.kind))=false) [])))):=kr
theorem q67_3 (W:World) (h:JH) (l:List JV) (g:JH) (k:List JV):sfun Tryz.prog W {tl:=[23],lp:=true} 1000 5 23 [eV h l,eV g k] [] 100000 [bf,bf,bf,bf,bf,bf,bf,bf,bf,bf,bf,bf,bf,bf,bf,bf,bf,bf,bf,bf,bt,bt,bt,bt,bt,bt,bt,bt,ee] []=.ok (.ret (.val (Value.bool false)) [],[aE 9999999],d2 ((!decide ((↑(List.map AV.str h.names).length:Int)=(↑(List.map AV.str g.names).length:Int)))=true) (d6 ((!decide ((↑(List.map AV.str h.names).length:Int)=(↑(List.map AV.str g.names).length:Int)))=true) (d2 ((!decide (h.text=g.text))=false) (d6 ((!decide (h.text=g.text))=false) (d6 ((!decide (h.int=g.int))=false) (d6 ((!decide (h.kind=g.kind))=false) [])))))):=kr
theorem q67_4 (W:World) (h:JH) (l:List JV) (g:JH) (k:List JV):sfun Tryz.prog W {tl:=[23],lp:=true} 1000 5 23 [eV h l,eV g k] [] 100000 [bf,bf,bf,bf,bf,bf,bf,bf,bf,bf,bf,bf,bf,bf,bf,bf,bf,bf,bf,bf,bf,bf,bf,bf,bf,bf,bf,bf,bt,ee] []=.ok (.ret (.val (Value.bool false)) [],[ee],((!decide ((↑(encVs l).length:Int)=(↑(encVs k).length:Int)))=true)::(d2 ((!decide ((↑(List.map AV.str h.names).length:Int)=(↑(List.map AV.str g.names).length:Int)))=false) (d6 ((!decide ((↑(List.map AV.str h.names).length:Int)=(↑(List.map AV.str g.names).length:Int)))=false) (d2 ((!decide (h.text=g.text))=false) (d6 ((!decide (h.text=g.text))=false) (d6 ((!decide (h.int=g.int))=false) (d6 ((!decide (h.kind=g.kind))=false) []))))))):=kr
theorem q67_5 (W:World) (h:JH) (l:List JV) (g:JH) (k:List JV) (i j:Nat):sfun Tryz.prog W {tl:=[23],lp:=true} 1000 5 23 [eV h l,eV g k] [] 100000 [bf,bf,bf,bf,bf,bf,bf,bf,bf,bf,bf,bf,bf,bf,bf,bf,bf,bf,bf,bf,bf,bf,bf,bf,bf,bf,bf,bf,bf,ee,.loopM [] [] (S67 h l g k 5 0) (.exit 0) (S67 h l g k 5 i),ee,.loopM [] [] (S67 h l g k 6 0) (.exit 2) (S67 h l g k 6 j),ee] []=.ok (.ret (.val (Value.bool true)) [],[ee],LZ W [] 23 1 (S67 h l g k 6 0) (.exit 2) (S67 h l g k 6 j)::MatchK [] [] [] {t:=[(2,.gp 100000 0),(3,.gp 100001 0),(6,.val (Value.int IntKind.i64 0))],h:=[(100000,gB (eV h l)),(100001,gB (eV g k))]} (S67 h l g k 6 0)::LZ W [] 23 0 (S67 h l g k 5 0) (.exit 0) (S67 h l g k 5 i)::MatchK [] [] [] {t:=[(2,.gp 100000 0),(3,.gp 100001 0),(5,.val (Value.int IntKind.i64 0))],h:=[(100000,gB (.agg [.val (Value.int IntKind.i64 h.kind),.val (Value.int IntKind.i64 h.int),.str h.3,sL 1 (List.map AV.str h.names),sL 5 (encVs l)])),(100001,gB (.agg [.val (Value.int IntKind.i64 g.kind),.val (Value.int IntKind.i64 g.int),.str g.3,sL 1 (List.map AV.str g.names),sL 5 (encVs k)]))]} (S67 h l g k 5 0)::((!decide ((↑(encVs l).length:Int)=(↑(encVs k).length:Int)))=false)::(d2 ((!decide ((↑(List.map AV.str h.names).length:Int)=(↑(List.map AV.str g.names).length:Int)))=false) (d6 ((!decide ((↑(List.map AV.str h.names).length:Int)=(↑(List.map AV.str g.names).length:Int)))=false) (d2 ((!decide (h.text=g.text))=false) (d6 ((!decide (h.text=g.text))=false) (d6 ((!decide (h.int=g.int))=false) (d6 ((!decide (h.kind=g.kind))=false) []))))))):=kr
theorem r67_5 (W:World) (h:JH) (l:List JV) (g:JH) (k:List JV):sfun Tryz.prog W {tl:=[23],lp:=true} 1000 5 23 [eV h l,eV g k] [] 100000 [bf,bf,bf,bf,bf,bf,bf,bf,bf,bf,bf,bf,bf,bf,bf,bf,bf,bf,bf,bf,bf,bf,bf,bf,bf,bf,bf,bf,bf,ee,.loopM [] [] (S67 h l g k 5 0) .ret R67,ee] []=.ok (.ret (.val (Value.bool false)) [],[ee],LZ W [] 23 0 (S67 h l g k 5 0) .ret R67::MatchK [] [] [] {t:=[(2,.gp 100000 0),(3,.gp 100001 0),(5,.val (Value.int IntKind.i64 0))],h:=[(100000,gB (.agg [.val (Value.int IntKind.i64 h.kind),.val (Value.int IntKind.i64 h.int),.str h.3,sL 1 (List.map AV.str h.names),sL 5 (encVs l)])),(100001,gB (.agg [.val (Value.int IntKind.i64 g.kind),.val (Value.int IntKind.i64 g.int),.str g.3,sL 1 (List.map AV.str g.names),sL 5 (encVs k)]))]} (S67 h l g k 5 0)::((!decide ((↑(encVs l).length:Int)=(↑(encVs k).length:Int)))=false)::(d2 ((!decide ((↑(List.map AV.str h.names).length:Int)=(↑(List.map AV.str g.names).length:Int)))=false) (d6 ((!decide ((↑(List.map AV.str h.names).length:Int)=(↑(List.map AV.str g.names).length:Int)))=false) (d2 ((!decide (h.text=g.text))=false) (d6 ((!decide (h.text=g.text))=false) (d6 ((!decide (h.int=g.int))=false) (d6 ((!decide (h.kind=g.kind))=false) []))))))):=kr
theorem s67_5 (W:World) (h:JH) (l:List JV) (g:JH) (k:List JV) (i:Nat):sfun Tryz.prog W {tl:=[23],lp:=true} 1000 5 23 [eV h l,eV g k] [] 100000 [bf,bf,bf,bf,bf,bf,bf,bf,bf,bf,bf,bf,bf,bf,bf,bf,bf,bf,bf,bf,bf,bf,bf,bf,bf,bf,bf,bf,bf,ee,.loopM [] [] (S67 h l g k 5 0) (.exit 0) (S67 h l g k 5 i),ee,.loopM [] [] (S67 h l g k 6 0) .ret R67,ee] []=.ok (.ret (.val (Value.bool false)) [],[ee],LZ W [] 23 1 (S67 h l g k 6 0) .ret R67::MatchK [] [] [] {t:=[(2,.gp 100000 0),(3,.gp 100001 0),(6,.val (Value.int IntKind.i64 0))],h:=[(100000,gB (eV h l)),(100001,gB (eV g k))]} (S67 h l g k 6 0)::LZ W [] 23 0 (S67 h l g k 5 0) (.exit 0) (S67 h l g k 5 i)::MatchK [] [] [] {t:=[(2,.gp 100000 0),(3,.gp 100001 0),(5,.val (Value.int IntKind.i64 0))],h:=[(100000,gB (.agg [.val (Value.int IntKind.i64 h.kind),.val (Value.int IntKind.i64 h.int),.str h.3,sL 1 (List.map AV.str h.names),sL 5 (encVs l)])),(100001,gB (.agg [.val (Value.int IntKind.i64 g.kind),.val (Value.int IntKind.i64 g.int),.str g.3,sL 1 (List.map AV.str g.names),sL 5 (encVs k)]))]} (S67 h l g k 5 0)::((!decide ((↑(encVs l).length:Int)=(↑(encVs k).length:Int)))=false)::(d2 ((!decide ((↑(List.map AV.str h.names).length:Int)=(↑(List.map AV.str g.names).length:Int)))=false) (d6 ((!decide ((↑(List.map AV.str h.names).length:Int)=(↑(List.map AV.str g.names).length:Int)))=false) (d2 ((!decide (h.text=g.text))=false) (d6 ((!decide (h.text=g.text))=false) (d6 ((!decide (h.int=g.int))=false) (d6 ((!decide (h.kind=g.kind))=false) []))))))):=kr
theorem call67:callable Tryz.prog 23=true:=kr
section
variable (W:World) (h:JH) (l:List JV) (g:JH) (k:List JV)
theorem namesExit (hl:h.names.length<=2 ^ 50) (e:h.names=g.names):∀ i:Nat,i<=h.names.length->LoopC Tryz.prog W [] (nslots Tryz.prog 23) (loopOf Tryz.prog 23 0) (S67 h l g k 5 i) (.exit 0) (S67 h l g k 5 h.names.length):=by
 refine loopC_inv (fun i:Nat=>S67 h l g k 5 i) (fun i=>i<=h.names.length) (fun i=>h.names.length - i) (by simp) ?_
 intro i h1
 by_cases hi:i<h.names.length
 ·obtain ⟨x,hx⟩:=getOf hi
  have hy:g.names[i]?=some x:=by rw [<-e];exact hx
  left
  exact ⟨i+1,by omega,by omega,body_of_sbodyM mixedz (n67_1 W h l g k i x x) Fr3_z3 [] [] Fr3_z1⟩
 ·right
  have hil:i=h.names.length:=by omega
  subst hil
  exact body_of_sbodyM mixedz (n67_2 W h l g k h.names.length) Fr3_z4 [] [] Fr3_z1
theorem namesRet (hl:h.names.length<=2 ^ 50) (hs:h.names.length=g.names.length) (e:h.names ≠ g.names):∀ i:Nat,(i<=h.names.length/\∀ q,q<i->h.names[q]?=g.names[q]?)->LoopC Tryz.prog W [] (nslots Tryz.prog 23) (loopOf Tryz.prog 23 0) (S67 h l g k 5 i) .ret R67:=by
 refine loopC_inv (fun i:Nat=>S67 h l g k 5 i) (fun i=>i<=h.names.length/\∀ q,q<i->h.names[q]?=g.names[q]?) (fun i=>h.names.length - i) (by simp) ?_
 rintro i ⟨h1,h2⟩
 by_cases hi:i<h.names.length
 ·obtain ⟨x,hx⟩:=getOf hi
  obtain ⟨y,hy⟩:=getOf (l:=g.names) (i:=i) (by omega)
  by_cases hxy:x=y
  ·left
   exact ⟨i+1,⟨by omega,upto_succ h2 (by rw [hx,hy,hxy])⟩,by omega,body_of_sbodyM mixedz (n67_1 W h l g k i x y) Fr3_z3 [] [] Fr3_z1⟩
  ·right
   exact body_of_sbodyM mixedz (n67_0 W h l g k i x y) Fr3_z3 [] [] Fr3_z1
 ·exact absurd (eq_of_get hs fun q hq=>h2 q (by omega)) e
theorem itemsExit (hl:l.length<=2 ^ 50) (e:l=k) (ih:∀ (i:Nat) (x y:JV),l[i]?=some x->k[i]?=some y->Pure Tryz.prog W 23 [encV x,encV y] (bA (eqV x y))):∀ i:Nat,i<=l.length->LoopC Tryz.prog W [] (nslots Tryz.prog 23) (loopOf Tryz.prog 23 1) (S67 h l g k 6 i) (.exit 2) (S67 h l g k 6 l.length):=by
 refine loopC_inv (fun i:Nat=>S67 h l g k 6 i) (fun i=>i<=l.length) (fun i=>l.length - i) (by simp) ?_
 intro i h1
 by_cases hi:i<l.length
 ·obtain ⟨x,hx⟩:=getOf hi
  have hy:k[i]?=some x:=by rw [<-e];exact hx
  left
  have hih:=ih i x x hx hy
  rw [eqV_true] at hih
  cases x with
  | mk h1 l1=>exact ⟨i+1,by omega,by omega,body_of_sbodyM mixedz (i67_1 W h l g k i h1 l1 h1 l1 true) Fr3_z3 [] [] Fr3_z1⟩
 ·right
  have hil:i=l.length:=by omega
  subst hil
  exact body_of_sbodyM mixedz (i67_2 W h l g k l.length) Fr3_z4 [] [] Fr3_z1
theorem itemsRet (hl:l.length<=2 ^ 50) (hs:l.length=k.length) (e:l ≠ k) (ih:∀ (i:Nat) (x y:JV),l[i]?=some x->k[i]?=some y->Pure Tryz.prog W 23 [encV x,encV y] (bA (eqV x y))):∀ i:Nat,(i<=l.length/\∀ q,q<i->l[q]?=k[q]?)->LoopC Tryz.prog W [] (nslots Tryz.prog 23) (loopOf Tryz.prog 23 1) (S67 h l g k 6 i) .ret R67:=by
 refine loopC_inv (fun i:Nat=>S67 h l g k 6 i) (fun i=>i<=l.length/\∀ q,q<i->l[q]?=k[q]?) (fun i=>l.length - i) (by simp) ?_
 rintro i ⟨h1,h2⟩
 by_cases hi:i<l.length
 ·obtain ⟨x,hx⟩:=getOf hi
  obtain ⟨y,hy⟩:=getOf (l:=k) (i:=i) (by omega)
  have hih:=ih i x y hx hy
  by_cases hxy:x=y
  ·left
   rw [hxy,eqV_true] at hih
   refine ⟨i+1,⟨by omega,upto_succ h2 (by rw [hx,hy,hxy])⟩,by omega,?_⟩
   subst hxy
   cases x with
   | mk h1 l1=>exact body_of_sbodyM mixedz (i67_1 W h l g k i h1 l1 h1 l1 true) Fr3_z3 [] [] Fr3_z1
  ·right
   rw [eqV_false hxy] at hih
   cases x with
   | mk h1 l1=>cases y with
    | mk g1 k1=>exact body_of_sbodyM mixedz (i67_0 W h l g k i h1 l1 g1 k1 false) Fr3_z3 [] [] Fr3_z1
 ·exact absurd (eq_of_get hs fun q hq=>h2 q (by omega)) e
theorem equal67_step (ha:h.names.length<=2 ^ 50/\l.length<=2 ^ 50) (ih:∀ (i:Nat) (x y:JV),l[i]?=some x->k[i]?=some y->Pure Tryz.prog W 23 [encV x,encV y] (bA (eqV x y))) :
 Pure Tryz.prog W 23 [encV (.mk h l),encV (.mk g k)] (bA (eqV (.mk h l) (.mk g k))):=by
 have no:∀ {b:Bool},(JV.mk h l ≠ .mk g k)->b=false->bA b=bA (eqV (.mk h l) (.mk g k)):=fun h1 h2=>by rw [eqV_false h1,h2]
 by_cases e1:h.kind=g.kind
 case neg=>rw [eqV_false (fun e=>e1 (by injection e with e _;rw [e]))];exact pure_of_mut rfl (mut_of_sfun mixedz call67 rfl (q67_0 W h l g k) Fr3_z4)
 by_cases e2:h.int=g.int
 case neg=>rw [eqV_false (fun e=>e2 (by injection e with e _;rw [e]))];exact pure_of_mut rfl (mut_of_sfun mixedz call67 rfl (q67_1 W h l g k) Fr3_z4)
 by_cases e3:h.text=g.text
 case neg=>rw [eqV_false (fun e=>e3 (by injection e with e _;rw [e]))];exact pure_of_mut rfl (mut_of_sfun mixedz call67 rfl (q67_2 W h l g k) Fr3_z4)
 by_cases e4:h.names.length=g.names.length
 case neg=>rw [eqV_false (fun e=>e4 (by injection e with e _;rw [e]))];exact pure_of_mut rfl (mut_of_sfun mixedz call67 rfl (q67_3 W h l g k) Fr3_z4)
 by_cases e5:l.length=k.length
 case neg=>rw [eqV_false (fun e=>e5 (by injection e with _ e;rw [e]))];exact pure_of_mut rfl (mut_of_sfun mixedz call67 rfl (q67_4 W h l g k) Fr3_z4)
 by_cases e6:h.names=g.names
 case neg =>
  have hlp:=namesRet W h l g k ha.1 e4 e6 0 ⟨by omega,by intro q hq;omega⟩
  rw [eqV_false (fun e=>e6 (by injection e with e _;rw [e]))];exact pure_of_mut rfl (mut_of_sfun mixedz call67 rfl (r67_5 W h l g k) Fr3_z4)
 have hn:=namesExit W h l g k ha.1 e6 0 (by omega)
 by_cases e7:l=k
 case neg =>
  have hlp:=itemsRet W h l g k ha.2 e5 e7 ih 0 ⟨by omega,by intro q hq;omega⟩
  rw [eqV_false (fun e=>e7 (by injection e))];exact pure_of_mut rfl (mut_of_sfun mixedz call67 rfl (s67_5 W h l g k h.names.length) Fr3_z4)
 have hi:=itemsExit W h l g k ha.2 e7 ih 0 (by omega)
 have e:JV.mk h l=.mk g k:=by rw [e7];congr 1;cases h;cases g;simp only at e1 e2 e3 e6;subst e1 e2 e3 e6;rfl
 rw [show eqV (.mk h l) (.mk g k)=true by rw [e];exact eqV_true _]
 exact pure_of_mut rfl (mut_of_sfun mixedz call67 rfl (q67_5 W h l g k h.names.length l.length) Fr3_z4)
end
theorem equal67 (W:World):∀ (n:Nat) (a b:JV),sizeV a<n->okV a->Pure Tryz.prog W 23 [encV a,encV b] (bA (eqV a b))
 | 0,_,_,h,_=>by omega
 | n+1,.mk h l,.mk g k,hs,hv=>equal67_step W h l g k ⟨hv.1,hv.2.1⟩ fun i x y hx _=>equal67 W n x y (by have:=sizeV_item (v:=.mk h l) hx;omega) (okVs_get hv.2.2 hx)
end Go.Ac

