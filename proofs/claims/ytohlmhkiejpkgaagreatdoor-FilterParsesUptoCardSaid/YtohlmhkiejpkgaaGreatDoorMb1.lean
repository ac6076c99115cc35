/- What is proved: contracts of functions of this translation, walked; their plain meaning. No condition beyond those that each theorem names. -/
import Derived.Test.YtohlmhkiejpkgaaGreatDoorZq
import Derived.Test.YtohlmhkiejpkgaaGreatDoorMa6
import Derived.Test.YtohlmhkiejpkgaaGreatDoorProg
set_option linter.all false
namespace Go.Ac
open Go Go.Proofs
set_option maxRecDepth 10000
set_option maxHeartbeats 1000000
theorem mixedz:Tryz.prog.follows .mixedOrders=true:=kr
section
variable (W:World) (s:List UInt8)
end
end Go.Ac

namespace Go.Ac
open Go Go.Proofs
set_option maxRecDepth 10000
set_option maxHeartbeats 1000000
theorem Fb2_z1 {kp f ph σ σ'} (h:MatchK kp f ph σ σ':=by exact ⟨by rfl,(by simp only [S68,R68,S164,R164,S72,tOK,List.map_cons,List.map_nil,and_true]<;>exact zt),(by simp only [S68,R68,S164,R164,S72,hOK,List.map_cons,List.map_nil,and_true]<;>exact zh),(by simp only [S68,R68,S164,R164,S72,liveT,List.map_cons,List.map_nil,and_true]<;>exact zv),(by simp only [S68,R68,S164,R164,S72,liveH,List.map_cons,List.map_nil,and_true]<;>exact zv)⟩):MatchK kp f ph σ σ':=h
theorem Fb2_z4 {cs} (h:Holds cs:=by simp only [Holds,and_true]<;>and_intros<;>first|exact zd|(simp only [Bool.not_eq_true',decide_eq_false_iff_not,Bool.not_eq_false',decide_eq_true_eq,ixbB_eq Tryz.prog,List.length_map,encVs_len,List.length_cons];first|assumption|omega;done)):Holds cs:=h
theorem Fb2_z5 {cs} (h:Holds cs:=by simp only [Holds,and_true]<;>and_intros<;>first|exact zd|(simp only [Bool.not_eq_true',decide_eq_false_iff_not,Bool.not_eq_false',decide_eq_true_eq,ixbB_eq Tryz.prog,List.length_map,encVs_len,List.length_cons];first|assumption|omega;done)|exact Fb2_z1):Holds cs:=h
def S68 (s:List UInt8) (i:Int):AS:=⟨[(0,.str s),(3,iA i)],[]⟩
def R68 (b:Bool):AS:=⟨[(2,.val (.bool b))],[]⟩
def S164 (h:JH) (l:List JV) (s:List UInt8) (m i:Int):AS:=⟨[(1,.str s),(2,.gp 100000 0),(7,iA m),(8,iA i)],[(100000,.box (encV (.mk h l)) .own)]⟩
def R164 (i:Int):AS:=⟨[(4,iA i)],[]⟩
def S72 (h:JH) (l:List JV) (s:List UInt8) (i:Int):AS:=⟨[(1,.str s),(2,.gp 100000 0),(5,iA i)],[(100000,.box (encV (.mk h l)) .own)]⟩
theorem b68_0 (W:World) (s:List UInt8) (i:Int) (x:UInt8):sQ W {lp:=true} 68 0 [] [0,2,3,4] (S68 s i) [bt,.lg,Ans.byt (some x),bt,ee]=.ok ((.ret,{t:=[(0,.str s),(2,bA false),(3,iA i),(4,iA i)],h:=[]}),[ee],[decide ((x.toNat:Int)=46)=true,s[i.toNat]?=some x,0<=i,decide (i<(s.length:Int))=true]):=kr
theorem b68_1 (W:World) (s:List UInt8) (i:Int) (x:UInt8):sQ W {lp:=true} 68 0 [] [0,2,3] (S68 s i) [bt,.lg,Ans.byt (some x),bf,ee]=.ok ((.normal,{t:=[(0,.str s),(3,iA (IntKind.i64.wrap (i+1)))],h:=[]}),[ee],[decide ((x.toNat:Int)=46)=false,s[i.toNat]?=some x,0<=i,decide (i<(s.length:Int))=true]):=kr
theorem b68_2 (W:World) (s:List UInt8) (i:Int):sQ W {lp:=true} 68 0 [] [0,2,3,4] (S68 s i) [bf,ee]=.ok ((.exit 0,{t:=[(0,.str s),(3,iA i),(4,iA i)],h:=[]}),[ee],[decide (i<(s.length:Int))=false]):=kr
theorem p68_0 (W:World) (s:List UInt8) (x:UInt8):sF W {lp:=true} 68 [.str s] [] 100000 [ee,.loopM [] [] (S68 s 0) (.exit 0) (S68 s (s.length:Int)),bt,bt,bt,bt,bt,bt,aE 1,Ans.byt (some x),bt,bt,ee] []=.ok (.ret (bA (!decide ((x.toNat:Int)=36))) [],[ee],d2 (decide ((s.length:Int)<=64)=true) ((s[0]?=some x)::(d2 (decide ((s.length:Int)<=64)=true) (d4 (decide (1<=(s.length:Int))=true) [LZ W [] 68 0 (S68 s 0) (.exit 0) (S68 s (s.length:Int)),MatchK [] [] [] {t:=[(0,.str s),(3,iA 0)],h:=[]} (S68 s 0)])))):=kr
theorem p68_1 (W:World) (s:List UInt8):sF W {lp:=true} 68 [.str s] [] 100000 [ee,.loopM [] [] (S68 s 0) (.exit 0) (S68 s (s.length:Int)),bt,bt,bt,bt,bf,bf,bf,bf,ee] []=.ok (.ret (bA false) [],[ee],d4 (decide ((s.length:Int)<=64)=false) (d4 (decide (1<=(s.length:Int))=true) [LZ W [] 68 0 (S68 s 0) (.exit 0) (S68 s (s.length:Int)),MatchK [] [] [] {t:=[(0,.str s),(3,iA 0)],h:=[]} (S68 s 0)])):=kr
theorem p68_2 (W:World) (s:List UInt8):sF W {lp:=true} 68 [.str s] [] 100000 [ee,.loopM [] [] (S68 s 0) (.exit 0) (S68 s (s.length:Int)),bf,bf,bf,bf,ee] []=.ok (.ret (bA false) [],[aE 9999996],d4 (decide (1<=(s.length:Int))=false) [LZ W [] 68 0 (S68 s 0) (.exit 0) (S68 s (s.length:Int)),MatchK [] [] [] {t:=[(0,.str s),(3,iA 0)],h:=[]} (S68 s 0)]):=kr
theorem q68_0 (W:World) (s:List UInt8):sF W {lp:=true} 68 [.str s] [] 100000 [ee,.loopM [] [] (S68 s 0) .ret (R68 false),ee] []=.ok (.ret (bA false) [],[ee],[LZ W [] 68 0 (S68 s 0) .ret (R68 false),MatchK [] [] [] {t:=[(0,.str s),(3,iA 0)],h:=[]} (S68 s 0)]):=kr
theorem p116_0 (W:World) (s:List UInt8):sF W {lp:=true} 116 [.str s] [] 100000 [bt,bt,bt,bt,bt,bt,aE 7,bt,bt,bt,ee] []=.ok (.ret (bA false) [],[aE 9999996],d2 (decide ((s.length:Int)<=64)=true) ((decide ([46]=s)=true)::(d2 (decide ((s.length:Int)<=64)=true) (d4 (decide (1<=(s.length:Int))=true) [])))):=kr
theorem p116_1 (W:World) (s:List UInt8) (x:UInt8):sF W {lp:=true} 116 [.str s] [] 100000 [bt,bt,bt,bt,bt,bt,aE 7,bf,aE 4,bt,bt,bt,bt,aE 1,Ans.byt (some x),bt,bt,ee] []=.ok (.ret (bA (!decide ((x.toNat:Int)=36))) [],[ee],d2 ((!decide (0<=ixbB s (UInt8.ofNat 46)))=true) ((s[0]?=some x)::(d2 ((!decide (0<=ixbB s (UInt8.ofNat 46)))=true) (d2 (decide ((s.length:Int)<=64)=true) ((decide ([46]=s)=false)::(d2 (decide ((s.length:Int)<=64)=true) (d4 (decide (1<=(s.length:Int))=true) []))))))):=kr
theorem p116_2 (W:World) (s:List UInt8):sF W {lp:=true} 116 [.str s] [] 100000 [bt,bt,bt,bt,bt,bt,aE 7,bf,aE 4,bt,bt,bf,bf,bf,bf,ee] []=.ok (.ret (bA false) [],[ee],d4 ((!decide (0<=ixbB s (UInt8.ofNat 46)))=false) (d2 (decide ((s.length:Int)<=64)=true) ((decide ([46]=s)=false)::(d2 (decide ((s.length:Int)<=64)=true) (d4 (decide (1<=(s.length:Int))=true) []))))):=kr
theorem p116_3 (W:World) (s:List UInt8):sF W {lp:=true} 116 [.str s] [] 100000 [bt,bt,bt,bt,bf,bf,bf,bf,ee] []=.ok (.ret (bA false) [],[aE 9999996],d4 (decide ((s.length:Int)<=64)=false) (d4 (decide (1<=(s.length:Int))=true) [])):=kr
theorem p116_4 (W:World) (s:List UInt8):sF W {lp:=true} 116 [.str s] [] 100000 [bf,bf,bf,bf,ee] []=.ok (.ret (bA false) [],[aE 9999992],d4 (decide (1<=(s.length:Int))=false) []):=kr
theorem call116:callable Tryz.prog 116=true:=kr
theorem call68:callable Tryz.prog 68=true:=kr
theorem goB {W:World} {f:FuncId} {As:List AV} {r r':AV} (e:r=r') (hc:r.clo=true) (h:MutC Tryz.prog W f As [] (.ret r [])):Pure Tryz.prog W f As r':=by subst e;exact pure_of_mut hc h
theorem segment116 (W:World) (s:List UInt8):Pure Tryz.prog W 116 [.str s] (bA (segB s)):=by
 cases s with
 | nil=>exact goB rfl rfl (mut_of_sfun mixedz call116 rfl (p116_4 W []) Fb2_z4)
 | cons c t =>
  by_cases h1:((c::t).length:Int)<=64
  case neg=>exact goB (by rw [segB_cons,decide_eq_false (by simp only [List.length_cons] at h1;omega)]<;>rfl) rfl (mut_of_sfun mixedz call116 rfl (p116_3 W (c::t)) Fb2_z4)
  by_cases h2:[46]=c::t
  ·rw [<-h2];exact goB rfl rfl (mut_of_sfun mixedz call116 rfl (p116_0 W [46]) Fb2_z4)
  have h1':t.length+1<=64:=by simp only [List.length_cons] at h1;omega
  by_cases h3:0<=ixbB (c::t) (UInt8.ofNat 46)
  ·have h3':¬ Lib.indexByte (c::t) 46<0:=by rw [ixbB_eq Tryz.prog] at h3;exact Int.not_lt.2 h3
   exact goB (by rw [segB_cons,decide_eq_true h1',decide_eq_false h3']<;>rfl) rfl (mut_of_sfun mixedz call116 rfl (p116_2 W (c::t)) (by simp only [Holds,and_true];and_intros<;>first|exact decide_eq_true (by simp only [List.length_cons];omega)|exact decide_eq_true h1|exact decide_eq_false h2|(rw [decide_eq_true h3];rfl)))
  ·have h3':Lib.indexByte (c::t) 46<0:=by rw [ixbB_eq Tryz.prog] at h3;exact Int.not_le.1 h3
   exact goB (by rw [segB_cons,decide_eq_true h1',decide_eq_true h3']<;>rfl) rfl (mut_of_sfun mixedz call116 rfl (p116_1 W (c::t) c) (by simp only [Holds,and_true];and_intros<;>first|exact decide_eq_true (by simp only [List.length_cons];omega)|exact decide_eq_true h1|exact decide_eq_false h2|(rw [decide_eq_false h3];rfl)|rfl))
section
variable (W:World) (s:List UInt8)
theorem loop68 (hl:s.length<=2 ^ 50) (hd:46 ∉ s):∀ i:Nat,i<=s.length->LoopC Tryz.prog W [] (nslots Tryz.prog 68) (loopOf Tryz.prog 68 0) (S68 s i) (.exit 0) (S68 s s.length):=by
 refine loopC_inv (fun i:Nat=>S68 s i) (fun i=>i<=s.length) (fun i=>s.length - i) (by simp) ?_
 intro i h1
 by_cases hi:i<s.length
 ·obtain ⟨x,hx⟩:=getOf hi
  left
  have hne:¬ (x.toNat:Int)=46:=fun e=>hd ((u8_eq x 46 46 rfl).1 e ▸ List.mem_of_getElem? hx)
  exact ⟨i+1,by omega,by omega,body_of_sbodyK mixedz (b68_1 W s i x) Fb2_z4 [] [] Fb2_z1⟩
 ·right
  have hil:i=s.length:=by omega
  subst hil
  exact body_of_sbodyK mixedz (b68_2 W s s.length) Fb2_z4 [] [] Fb2_z1
theorem loopR68 (hl:s.length<=2 ^ 50) (hd:46 ∈ s):∀ i:Nat,(i<=s.length/\∀ k,k<i->s[k]? ≠ some 46)->LoopC Tryz.prog W [] (nslots Tryz.prog 68) (loopOf Tryz.prog 68 0) (S68 s i) .ret (R68 false):=by
 refine loopC_inv (fun i:Nat=>S68 s i) (fun i=>i<=s.length/\∀ k,k<i->s[k]? ≠ some 46) (fun i=>s.length - i) (by simp) ?_
 rintro i ⟨h1,h2⟩
 by_cases hi:i<s.length
 ·obtain ⟨x,hx⟩:=getOf hi
  by_cases he:(x.toNat:Int)=46
  ·exact .inr (body_of_sbodyK mixedz (b68_0 W s i x) Fb2_z4 [] [] Fb2_z1)
  left
  exact ⟨i+1,⟨by omega,_root_.Go.Ac.upto_succ h2 (by rw [hx];intro e;simp only [Option.some.injEq] at e;exact he ((u8_eq x 46 46 rfl).2 e))⟩,by omega,body_of_sbodyK mixedz (b68_1 W s i x) Fb2_z4 [] [] Fb2_z1⟩
 ·exfalso
  obtain ⟨k,hk⟩:=List.getElem?_of_mem hd
  exact h2 k (by have:=(List.getElem?_eq_some_iff.1 hk).1;omega) hk
theorem segment68 (hl:s.length<=2 ^ 50):Pure Tryz.prog W 68 [.str s] (bA (segB s)):=by
 by_cases hd:46 ∈ s
 ·have hlp:=loopR68 W s hl hd 0 ⟨by omega,by intro k hk;omega⟩
  exact goB (by simp [segB,hd,bA]) rfl (mut_of_sfun mixedz call68 rfl (q68_0 W s) Fb2_z5)
 have hlp:=loop68 W s hl hd 0 (by omega)
 cases s with
 | nil=>exact goB rfl rfl (mut_of_sfun mixedz call68 rfl (p68_2 W []) Fb2_z5)
 | cons c t =>
  have hneg:Lib.indexByte (c::t) 46<0:=(indexByte_neg 46 (c::t)).2 hd
  by_cases h1:((c::t).length:Int)<=64
  case neg=>exact goB (by rw [segB_cons,decide_eq_false (by simp only [List.length_cons] at h1;omega)]<;>rfl) rfl (mut_of_sfun mixedz call68 rfl (p68_1 W (c::t)) Fb2_z5)
  have h1':t.length+1<=64:=by simp only [List.length_cons] at h1;omega
  exact goB (by rw [segB_cons,decide_eq_true h1',decide_eq_true hneg]<;>rfl) rfl (mut_of_sfun mixedz call68 rfl (p68_0 W (c::t) c) Fb2_z5)
end
section
variable (W:World) (h:JH) (l:List JV) (s:List UInt8)
theorem mem_mk:(JV.mk h l).mem=if l.length<h.names.length then l.length else h.names.length:=rfl
theorem mem_min:(if ((encVs l).length:Int)<((h.names.map AV.str).length:Int) then ((encVs l).length:Int) else ((h.names.map AV.str).length:Int))=((JV.mk h l).mem:Nat):=by
 rw [mem_mk];simp only [encVs_len,List.length_map]
 by_cases hlt:l.length<h.names.length
 ·rw [if_pos (by omega),if_pos hlt]
 ·rw [if_neg (by omega),if_neg hlt]
end
end Go.Ac

namespace Go.Ac
open Go Go.Proofs
set_option maxRecDepth 10000
set_option maxHeartbeats 1000000
theorem bytes_get {s:List UInt8} {i:Nat} {x:UInt8} (h:s[i]?=some x):(bytesA s)[i]?=some (.val (.int .u8 x.toNat)):=by simp [bytesA,h]
section
variable (W:World) (s:List UInt8)
end
end Go.Ac

namespace Go.Ac
open Go Go.Proofs
set_option maxRecDepth 10000
set_option maxHeartbeats 1000000
theorem Fb4_z1 {kp f ph σ σ'} (h:MatchK kp f ph σ σ':=by exact ⟨by rfl,(by simp only [S152,tOK,List.map_cons,List.map_nil,and_true]<;>exact zt),(by simp only [S152,hOK,List.map_cons,List.map_nil,and_true]<;>exact zh),(by simp only [S152,liveT,List.map_cons,List.map_nil,and_true]<;>exact zv),(by simp only [S152,liveH,List.map_cons,List.map_nil,and_true]<;>exact zv)⟩):MatchK kp f ph σ σ':=h
theorem Fb4_z5 {cs} (h:Holds cs:=by simp only [Holds,and_true]<;>and_intros<;>first|exact zd):Holds cs:=h
theorem Fb4_z6 {cs} (h:Holds cs:=by simp only [Holds,and_true]<;>and_intros<;>first|exact zd|exact Fb4_z1):Holds cs:=h
def padA (A:List (List UInt8)) (i:Nat):List AV:=(A.take i).map AV.str++List.replicate (A.length - i) (AV.str [])
def S152 (A:List (List UInt8)) (u:List UInt8) (i:Nat):AS:=⟨[(0,.str u),(1,.str [46]),(2,iA 0),(3,iA ((A.length:Int) - 1)),(9,.gs 100000 0 A.length),(10,iA i)],[(100000,.arr 9 1 (padA A i) .own)]⟩
theorem b152_0 (W:World) (A:List (List UInt8)) (u:List UInt8) (i:Nat):sQ W {lp:=true} 152 0 [] [0,1,2,3,9,10] (S152 A u i) [bt,aE 6,bt,aE 3,.lg,oS (.str []),aE 1,.lg,ee]=.ok ((.normal,{t:=[(0,.str (List.drop 1 (List.take (↑(defLen (.str u)):Int).toNat u))),(1,.str [46]),(2,iA 0),(3,iA ((A.length:Int) - 1)),(9,.gs 100000 0 A.length),(10,iA (IntKind.i64.wrap ((i:Int)+1)))],h:=[(100000,.arr 9 1 ((padA A i).set (0+(i:Int).toNat) (.str [])) .own)]}),[ee],[1<=(↑(defLen (.str u)):Int)/\(↑(defLen (.str u)):Int)<=(u.length:Int),(padA A i)[0+(i:Int).toNat]?=some (AV.str []),0<=(i:Int)/\(i:Int)<(A.length:Int),decide ([46]=u)=true,decide ((i:Int)<(A.length:Int) - 1)=true]):=kr
theorem b152_2 (W:World) (A:List (List UInt8)) (u:List UInt8) (i:Nat):sQ W {lp:=true} 152 0 [] [0,1,2,3,9,10] (S152 A u i) [bt,aE 6,bf,aE 4,bf,.lg,.lg,.lg,oS (.str []),.lg,.lg,ee]=.ok ((.normal,{t:=[(0,.str (List.drop (IntKind.i64.wrap (ixbB u (UInt8.ofNat 46)+1)).toNat (List.take (↑(defLen (.str u)):Int).toNat u))),(1,.str [46]),(2,iA 0),(3,iA ((A.length:Int) - 1)),(9,.gs 100000 0 A.length),(10,iA (IntKind.i64.wrap ((i:Int)+1)))],h:=[(100000,.arr 9 1 ((padA A i).set (0+(i:Int).toNat) (.str (List.drop 0 (List.take (IntKind.i64.wrap (ixbB u (UInt8.ofNat 46)+0)).toNat u)))) .own)]}),[ee],[IntKind.i64.wrap (ixbB u (UInt8.ofNat 46)+1)<=(↑(defLen (.str u)):Int)/\(↑(defLen (.str u)):Int)<=(u.length:Int),0<=IntKind.i64.wrap (ixbB u (UInt8.ofNat 46)+1)/\0<=(↑(defLen (.str u)):Int),(padA A i)[0+(i:Int).toNat]?=some (AV.str []),0<=(i:Int)/\(i:Int)<(A.length:Int),0<=IntKind.i64.wrap (ixbB u (UInt8.ofNat 46)+0)/\IntKind.i64.wrap (ixbB u (UInt8.ofNat 46)+0)<=(u.length:Int),(0:Int)<=0/\0<=IntKind.i64.wrap (ixbB u (UInt8.ofNat 46)+0),decide (ixbB u (UInt8.ofNat 46)<0)=false,decide ([46]=u)=false,decide ((i:Int)<(A.length:Int) - 1)=true]):=kr
theorem b152_3 (W:World) (A:List (List UInt8)) (u:List UInt8) (i:Nat):sbodyM Tryz.prog W {lp:=true} 152 0 [] (S152 A u i) [bf,ee]=.ok ((.exit 0,{t:=[(0,.str u),(1,.str [46]),(2,iA 0),(3,iA ((A.length:Int) - 1)),(9,.gs 100000 0 A.length),(10,iA (i:Int)),(34,iA (i:Int)),(35,iA ((A.length:Int) - 1)),(36,bA (decide ((i:Int)<(A.length:Int) - 1)))],h:=[(100000,.arr 9 1 (padA A i) .own)]}),[ee],[decide ((i:Int)<(A.length:Int) - 1)=false]):=kr
theorem p152_0 (W:World) (s:List UInt8) (A:List (List UInt8)) (u:List UInt8) (i:Nat):sF W {lp:=true,fin:=9} 152 [.str s,.str [46],iA 0,iA (-1)] [] 100000 [aE 8,.lg,.lg,ee,.loopM [] [] (S152 A s 0) (.exit 0) (S152 A u i),.lg,oS (.str []),.lg,.lg,ee,.fin [] [] (.gs 100000 0 A.length) [(100000,.arr 9 1 (List.map AV.str A) .own)],ee] []=.ok (.ret (.gs 100000 0 A.length) [(100000,.arr 9 1 (List.map AV.str A) .own)],[ee],[MatchK [] [] [] {t:=[(0,.gs 100000 0 ((IntKind.i64.wrap ((i:Int)+1)).toNat - 0))],h:=[(100000,.arr 9 1 ((padA A i).set (0+(i:Int).toNat) (.str u)) .own)]} {t:=[(0,.gs 100000 0 A.length)],h:=[(100000,.arr 9 1 (List.map AV.str A) .own)]},0<=IntKind.i64.wrap ((i:Int)+1)/\IntKind.i64.wrap ((i:Int)+1)<=(A.length:Int),(0:Int)<=0/\0<=IntKind.i64.wrap ((i:Int)+1),(padA A i)[0+(i:Int).toNat]?=some (AV.str []),0<=(i:Int)/\(i:Int)<(A.length:Int),LZ W [] 152 0 (S152 A s 0) (.exit 0) (S152 A u i),MatchK [] [] [] {t:=[(0,.str s),(1,.str [46]),(2,iA 0),(3,iA (IntKind.i64.wrap ((if IntKind.i64.wrap ((s.length:Int)+1)<IntKind.i64.wrap (cntB s (UInt8.ofNat 46)+1) then IntKind.i64.wrap ((s.length:Int)+1) else IntKind.i64.wrap (cntB s (UInt8.ofNat 46)+1)) - 1))),(9,.gs 100000 0 (if IntKind.i64.wrap ((s.length:Int)+1)<IntKind.i64.wrap (cntB s (UInt8.ofNat 46)+1) then IntKind.i64.wrap ((s.length:Int)+1) else IntKind.i64.wrap (cntB s (UInt8.ofNat 46)+1)).toNat),(10,iA 0)],h:=[(100000,.arr 9 1 (List.replicate (if IntKind.i64.wrap ((s.length:Int)+1)<IntKind.i64.wrap (cntB s (UInt8.ofNat 46)+1) then IntKind.i64.wrap ((s.length:Int)+1) else IntKind.i64.wrap (cntB s (UInt8.ofNat 46)+1)).toNat (.str [])) .own)]} (S152 A s 0),(16 * if IntKind.i64.wrap ((s.length:Int)+1)<IntKind.i64.wrap (cntB s (UInt8.ofNat 46)+1) then IntKind.i64.wrap ((s.length:Int)+1) else IntKind.i64.wrap (cntB s (UInt8.ofNat 46)+1))<=281474976710656/\(if IntKind.i64.wrap ((s.length:Int)+1)<IntKind.i64.wrap (cntB s (UInt8.ofNat 46)+1) then IntKind.i64.wrap ((s.length:Int)+1) else IntKind.i64.wrap (cntB s (UInt8.ofNat 46)+1))<=9223372036854775807,(0<=if IntKind.i64.wrap ((s.length:Int)+1)<IntKind.i64.wrap (cntB s (UInt8.ofNat 46)+1) then IntKind.i64.wrap ((s.length:Int)+1) else IntKind.i64.wrap (cntB s (UInt8.ofNat 46)+1))/\(if IntKind.i64.wrap ((s.length:Int)+1)<IntKind.i64.wrap (cntB s (UInt8.ofNat 46)+1) then IntKind.i64.wrap ((s.length:Int)+1) else IntKind.i64.wrap (cntB s (UInt8.ofNat 46)+1))<=if IntKind.i64.wrap ((s.length:Int)+1)<IntKind.i64.wrap (cntB s (UInt8.ofNat 46)+1) then IntKind.i64.wrap ((s.length:Int)+1) else IntKind.i64.wrap (cntB s (UInt8.ofNat 46)+1)]):=kr
theorem p115_0 (W:World) (s:List UInt8) (A:List (List UInt8)):sF W {lp:=true,tl:=[152]} 115 [.str s,.str [46]] [] 100000 [ee,cR (sL 1 (List.map AV.str A)) [],ee] []=.ok (.ret (sL 1 (List.map AV.str A)) [],[ee],[MZ W 152 [.str s,.str [46],iA 0,iA (-1)] [] (.ret (sL 1 (List.map AV.str A)) [])]):=kr
theorem call152:callable Tryz.prog 152=true:=kr
theorem call115:callable Tryz.prog 115=true:=kr
theorem rep_clo:∀ n:Nat,cloL (List.replicate n (AV.str []))=true
 | 0=>rfl
 | n+1=>by rw [List.replicate_succ];simp only [cloL,rep_clo n,Bool.and_true];rfl
theorem padA_clo (A:List (List UInt8)) (i:Nat):cloL (padA A i)=true:=by unfold padA;rw [clo_append,cloL_str,rep_clo];rfl
theorem padA_set {A:List (List UInt8)} {i:Nat} {x:List UInt8} (h:A[i]?=some x):(padA A i).set i (.str x)=padA A (i+1):=take_pad h (List.getElem?_eq_some_iff.1 h).1
theorem padA_get {A:List (List UInt8)} {i:Nat} (h:i<A.length):(padA A i)[i]?=some (.str []):=pad_get h (Nat.le_refl _)
theorem padA_all (A:List (List UInt8)):padA A A.length=A.map AV.str:=by simp [padA]
theorem padA_zero (A:List (List UInt8)):List.replicate A.length (AV.str [])=padA A 0:=by simp [padA]
def lastU (A:List (List UInt8)):List UInt8:=(A.drop (A.length - 1)).headD []
section
variable (W:World) (s:List UInt8)
theorem loop152 (A:List (List UInt8)) (hs:s.length<=2 ^ 30) (hA:A.length<=s.length+1):∀ p:Nat×List UInt8,(p.1<A.length/\splitD 46 p.2=A.drop p.1/\p.2.length<=s.length) →
 LoopC Tryz.prog W [] (nslots Tryz.prog 152) (loopOf Tryz.prog 152 0) (S152 A p.2 p.1) (.exit 0) (S152 A (lastU A) (A.length - 1:Nat)):=by
 refine loopC_inv (fun p:Nat×List UInt8=>S152 A p.2 p.1) (fun p=>p.1<A.length/\splitD 46 p.2=A.drop p.1/\p.2.length<=s.length) (fun p=>A.length - p.1) (by simp) ?_
 rintro ⟨i,u⟩ ⟨h1,h2,h3⟩
 simp only at h1 h2 h3
 have hdl:defLen (AV.str u)=u.length:=rfl
 by_cases hi:(i:Int)<(A.length:Int) - 1
 ·left
  by_cases hm:ixbB u (UInt8.ofNat 46)<0
  ·exfalso
   have e:=splitD_one 46 u (by rw [<-ixbB_eq Tryz.prog];exact hm)
   have:=congrArg List.length (h2.symm.trans e)
   simp only [List.length_drop,List.length_cons,List.length_nil] at this
   omega
  obtain ⟨m,hixb⟩:=Int.eq_ofNat_of_zero_le (show 0<=ixbB u (UInt8.ofNat 46) by omega)
  have hixb':Lib.indexByte u 46=(m:Int):=by rw [<-ixbB_eq Tryz.prog];exact hixb
  obtain ⟨hcut,hml⟩:=splitD_cut 46 u m hixb'
  have hx:A[i]?=some (u.take m):=by
   have:=congrArg List.head? (h2.symm.trans hcut)
   rw [List.head?_drop] at this;simpa using this
  have hrest:splitD 46 (u.drop (m+1))=A.drop (i+1):=by
   have:=congrArg List.tail (h2.symm.trans hcut)
   rw [List.tail_drop] at this;simpa using this.symm
  have hw0:IntKind.i64.wrap ((m:Int)+0)=(m:Int):=by rw [IntWalk.i64_in _ (by omega)];omega
  have hw1:IntKind.i64.wrap ((m:Int)+1)=((m+1:Nat):Int):=wrap_succ (by omega)
  have hws:IntKind.i64.wrap ((i:Int)+1)=((i+1:Nat):Int):=wrap_succ (by omega)
  refine ⟨(i+1,u.drop (m+1)),⟨by simp only;omega,hrest,by simp only [List.length_drop];omega⟩,by simp only;omega,?_⟩
  by_cases he:[46]=u
  ·subst he
   have hm0:m=0:=by simp only [List.length_cons,List.length_nil] at hml;omega
   subst hm0
   have hset:(padA A i).set (0+((i:Int)).toNat) (AV.str [])=padA A (i+1):=by
    rw [Int.toNat_natCast,Nat.zero_add];exact padA_set hx
   exact body_of_sbodyK mixedz (b152_0 W A [46] i) Fb4_z5 [] [] Fb4_z1
  ·have hset:(padA A i).set (0+((i:Int)).toNat) (AV.str (List.drop 0 (List.take ((m:Int)).toNat u)))=padA A (i+1):=by
    rw [Int.toNat_natCast,Nat.zero_add,Int.toNat_natCast,List.drop_zero];exact padA_set hx
   exact body_of_sbodyK mixedz (b152_2 W A u i) Fb4_z5 [] [] Fb4_z1
 ·right
  have hi2:i=A.length - 1:=by omega
  subst hi2
  have e1:=splitD_single 46 u (by rw [h2];simp only [List.length_drop];omega)
  have e2:lastU A=u:=by unfold lastU;rw [<-h2,e1];rfl
  rw [e2]
  exact body_of_sbodyM mixedz (b152_3 W A u _) Fb4_z5 [] [] Fb4_z1
theorem genSplit152 (hs:s.length<=2 ^ 30):Pure Tryz.prog W 152 [.str s,.str [46],iA 0,iA (-1)] (.sl 1 ((splitD 46 s).map AV.str) []):=by
 have hA:(splitD 46 s).length=Lib.countByte s 46+1:=splitD_len 46 s
 have hcl:Lib.countByte s 46<=s.length:=countByte_le s 46
 generalize hAA:splitD 46 s=A at hA
 have hcb:cntB s (UInt8.ofNat 46)=(Lib.countByte s 46:Int):=cntB_eq Tryz.prog s 46
 have hw1:IntKind.i64.wrap (cntB s (UInt8.ofNat 46)+1)=(A.length:Int):=by rw [hcb,IntWalk.i64_in _ (by omega)];omega
 have hw2:IntKind.i64.wrap ((s.length:Int)+1)=(s.length:Int)+1:=by rw [IntWalk.i64_in _ (by omega)]
 have hN:(if IntKind.i64.wrap ((s.length:Int)+1)<IntKind.i64.wrap (cntB s (UInt8.ofNat 46)+1) then IntKind.i64.wrap ((s.length:Int)+1) else IntKind.i64.wrap (cntB s (UInt8.ofNat 46)+1))=(A.length:Int):=by
  rw [hw1,hw2,if_neg (by omega)]
 have hwm:IntKind.i64.wrap ((A.length:Int) - 1)=(A.length:Int) - 1:=by rw [IntWalk.i64_in _ (by omega)]
 have h1:A.length - 1<A.length:=by omega
 have hws:IntKind.i64.wrap (((A.length - 1:Nat):Int)+1)=(A.length:Int):=by rw [IntWalk.i64_in _ (by omega)];omega
 have hlp:=loop152 W s A hs (by omega) (0,s) ⟨by simp only;omega,by simp only;rw [hAA];rfl,Nat.le_refl _⟩
 have hlast:A[A.length - 1]?=some (lastU A):=by
  unfold lastU
  have:A.length - 1<A.length:=h1
  rw [List.drop_eq_getElem_cons this,List.getElem?_eq_getElem this];rfl
 have hset:(padA A (A.length - 1)).set (0+(((A.length - 1:Nat):Int)).toNat) (AV.str (lastU A))=A.map AV.str:=by
  rw [Int.toNat_natCast,Nat.zero_add,padA_set hlast,<-padA_all];congr 1;omega
 have hdl:defLen (AV.str (lastU A))=(lastU A).length:=rfl
 have h:=mut_of_sfun mixedz call152 rfl (p152_0 W s A (lastU A) (A.length - 1)) Fb4_z6
 exact pure_frz1 h (by simp) (cloL_str _)
theorem Split115 (hs:s.length<=2 ^ 30):Pure Tryz.prog W 115 [.str s,.str [46]] (.sl 1 ((splitD 46 s).map AV.str) []):=by
 have hc:=mut_of_pure (by rfl) (genSplit152 W s hs)
 exact goB rfl rfl (mut_of_sfun mixedz call115 rfl (p115_0 W s (splitD 46 s)) Fb4_z5)
end
end Go.Ac

namespace Go.Ac
open Go Go.Proofs
set_option maxRecDepth 10000
set_option maxHeartbeats 1000000
theorem Fb5_z1 {kp f ph σ σ'} (h:MatchK kp f ph σ σ':=by exact ⟨by rfl,(by simp only [S76,E76,R76,S23,E23,tOK,List.map_cons,List.map_nil,and_true]<;>exact zt),(by simp only [S76,E76,R76,S23,E23,hOK,List.map_cons,List.map_nil,and_true]<;>exact zh),(by simp only [S76,E76,R76,S23,E23,liveT,List.map_cons,List.map_nil,and_true]<;>exact zv),(by simp only [S76,E76,R76,S23,E23,liveH,List.map_cons,List.map_nil,and_true]<;>exact zv)⟩):MatchK kp f ph σ σ':=h
theorem Fb5_z5 {cs} (h:Holds cs:=by simp only [Holds,and_true]<;>and_intros<;>first|exact zd):Holds cs:=h
theorem Fb5_z6 {cs} (h:Holds cs:=by simp only [Holds,and_true]<;>and_intros<;>first|exact zd|exact Fb5_z1):Holds cs:=h
def S76 (p:List (List UInt8)) (t:Int) (i:Nat):AS:=⟨[(5,iA t),(6,.gs 100000 0 i),(10,.sl 1 (p.map AV.str) []),(11,iA p.length),(12,iA i)],[(100000,.arr 9 1 ((p.take i).map AV.str) .own)]⟩
def E76 (p:List (List UInt8)):AS:=⟨[(6,.gs 100000 0 p.length)],[(100000,.arr 9 1 (p.map AV.str) .own)]⟩
def R76 (t:Int):AS:=⟨[(2,.val (.slice none 0 0)),(3,iA 20),(4,iA t)],[]⟩
def S23 (s:List UInt8) (p:List (List UInt8)) (a i j:Nat):AS:=⟨[(0,.str s),(5,.gs 100000 0 j),(6,iA a),(7,iA i)],[(100000,.arr 9 1 ((p.take j).map AV.str) .own)]⟩
def E23 (p:List (List UInt8)):AS:=⟨[(5,.gs 100000 0 p.length)],[(100000,.arr 9 1 (p.map AV.str) .own)]⟩
theorem b76_0 (W:World) (p:List (List UInt8)) (t:Int) (i:Nat) (x:List UInt8):sQ W {lp:=true,tl:=[116]} 76 0 [] [2,3,4,5,6,10,11,12] (S76 p t i) [bt,aE 1,oS (.str x),ee,cR (bA (segB x)) [],bt,bt,bt,bt,ee]=.ok ((.ret,{t:=[(2,.val (Value.slice none 0 0)),(3,iA 20),(4,iA t),(5,iA t),(6,.gs 100000 0 i),(10,sL 1 (List.map AV.str p)),(11,iA (p.length:Int)),(12,iA (i:Int))],h:=[(100000,.arr 9 1 (List.map AV.str (List.take i p)) .own)]}),[aE 9999999],d4 ((!segB x)=true) [MZ W 116 [.str x] [] (.ret (bA (segB x)) []),(List.map AV.str p)[(i:Int).toNat]?=some (AV.str x),decide ((i:Int)<(p.length:Int))=true]):=kr
theorem b76_1 (W:World) (p:List (List UInt8)) (t:Int) (i:Nat) (x:List UInt8):sQ W {lp:=true,tl:=[116]} 76 0 [] [2,3,4,5,6,10,11,12] (S76 p t i) [bt,aE 1,oS (.str x),ee,cR (bA (segB x)) [],bf,bf,bf,bf,bt,ee]=.ok ((.ret,{t:=[(2,.val (Value.slice none 0 0)),(3,iA 20),(4,iA t),(5,iA t),(6,.gs 100000 0 i),(10,sL 1 (List.map AV.str p)),(11,iA (p.length:Int)),(12,iA (i:Int))],h:=[(100000,.arr 9 1 (List.map AV.str (List.take i p)) .own)]}),[ee],(decide ((i:Int)=16)=true)::(d4 ((!segB x)=false) [MZ W 116 [.str x] [] (.ret (bA (segB x)) []),(List.map AV.str p)[(i:Int).toNat]?=some (AV.str x),decide ((i:Int)<(p.length:Int))=true])):=kr
theorem b76_2 (W:World) (p:List (List UInt8)) (t:Int) (i:Nat) (x:List UInt8):sQ W {lp:=true,tl:=[116]} 76 0 [] [2,3,4,5,6,10,11,12] (S76 p t i) [bt,aE 1,oS (.str x),ee,cR (bA (segB x)) [],bf,bf,bf,bf,bf,aE 1,.lg,.lg,ee]=.ok ((.normal,{t:=[(5,iA (IntKind.i64.wrap (t+IntKind.i64.wrap ((x.length:Int)+1)))),(6,.gs 100002 0 (i+[AV.str x].length)),(10,sL 1 (List.map AV.str p)),(11,iA (p.length:Int)),(12,iA (IntKind.i64.wrap ((i:Int)+1)))],h:=[(100000,.dead),(100001,.arr 9 1 [.str x] .own),(100002,.arr 9 1 (List.take i (List.map AV.str (List.take i p))++[AV.str x]) .own)]}),[ee],((i+[AV.str x].length) * 16<=140737488355328)::((St.own=St.own\/St.own=St.shr/\i=(List.map AV.str (List.take i p)).length)/\i<=(List.map AV.str (List.take i p)).length)::(decide ((i:Int)=16)=false)::(d4 ((!segB x)=false) [MZ W 116 [.str x] [] (.ret (bA (segB x)) []),(List.map AV.str p)[(i:Int).toNat]?=some (AV.str x),decide ((i:Int)<(p.length:Int))=true])):=kr
theorem b76_3 (W:World) (p:List (List UInt8)) (t:Int) (i:Nat):sQ W {lp:=true,tl:=[116]} 76 0 [] [2,3,4,5,6,10,11,12] (S76 p t i) [bf,ee]=.ok ((.exit 0,{t:=[(5,iA t),(6,.gs 100000 0 i),(10,sL 1 (List.map AV.str p)),(11,iA (p.length:Int)),(12,iA (i:Int))],h:=[(100000,.arr 9 1 (List.map AV.str (List.take i p)) .own)]}),[ee],[decide ((i:Int)<(p.length:Int))=false]):=kr
theorem p76_0 (W:World) (s:List UInt8) (p:List (List UInt8)) (t:Int):sF W {fin:=9,lp:=true,tl:=[115]} 76 [.str s] [] 100000 [ee,cR (sL 1 (List.map AV.str p)) [],ee,.loopM [] [(100000,1)] (S76 p 0 0) (.exit 0) (E76 p),ee,.fin [] [] (.tup [.gs 100000 0 p.length,iA 0,iA 0]) [(100000,.arr 9 1 (List.map AV.str p) .own)],ee] []=.ok (.ret (.tup [.gs 100000 0 p.length,iA 0,iA 0]) [(100000,.arr 9 1 (List.map AV.str p) .own)],[ee],[MatchK [] [] [] {t:=[(0,.tup [.gs 100000 0 p.length,iA 0,iA 0])],h:=[(100000,.arr 9 1 (List.map AV.str p) .own)]} {t:=[(0,.tup [.gs 100000 0 p.length,iA 0,iA 0])],h:=[(100000,.arr 9 1 (List.map AV.str p) .own)]},LZ W [] 76 0 (S76 p 0 0) (.exit 0) (E76 p),MatchK [] [] [(100000,1)] {t:=[(5,iA 0),(6,.val (Value.slice none 0 0)),(10,sL 1 (List.map AV.str p)),(11,iA (↑(List.map AV.str p).length:Int)),(12,iA 0)],h:=[]} (S76 p 0 0),MZ W 115 [.str s,.str [46]] [] (.ret (sL 1 (List.map AV.str p)) [])]):=kr
theorem q76_0 (W:World) (s:List UInt8) (p:List (List UInt8)) (t:Int):sF W {lp:=true,tl:=[115]} 76 [.str s] [] 100000 [ee,cR (sL 1 (List.map AV.str p)) [],ee,.loopM [] [(100000,1)] (S76 p 0 0) .ret (R76 t),ee] []=.ok (.ret (.tup [.val (Value.slice none 0 0),iA 20,iA t]) [],[ee],[LZ W [] 76 0 (S76 p 0 0) .ret (R76 t),MatchK [] [] [(100000,1)] {t:=[(5,iA 0),(6,.val (Value.slice none 0 0)),(10,sL 1 (List.map AV.str p)),(11,iA (↑(List.map AV.str p).length:Int)),(12,iA 0)],h:=[]} (S76 p 0 0),MZ W 115 [.str s,.str [46]] [] (.ret (sL 1 (List.map AV.str p)) [])]):=kr
theorem b23_0 (W:World) (s:List UInt8) (p:List (List UInt8)) (a i j:Nat) (t:Int) (y:UInt8):sQ W {lp:=true,tl:=[68]} 23 0 [] [0,5,6,7] (S23 s p a i j) [bt,bt,bt,bt,aE 1,Ans.byt (some y),bt,bt,bt,ee]=.ok ((.normal,{t:=[(0,.str s),(5,.gs 100000 0 j),(6,iA (a:Int)),(7,iA (IntKind.i64.wrap ((i:Int)+1)))],h:=[(100000,.arr 9 1 (List.map AV.str (List.take j p)) .own)]}),[ee],((!decide ((y.toNat:Int)=46))=true)::(d2 (decide ((i:Int)<(s.length:Int))=true) ((s[(i:Int).toNat]?=some y)::(d3 (decide ((i:Int)<(s.length:Int))=true) [decide ((i:Int)<=(s.length:Int))=true])))):=kr
theorem b23_1 (W:World) (s:List UInt8) (p:List (List UInt8)) (a i j:Nat) (t:Int) (y:UInt8):sQ W {lp:=true,tl:=[68]} 23 0 [] [0,2,3,4,5,6,7] (S23 s p a i j) [bt,bt,bt,bt,aE 1,Ans.byt (some y),bt,bt,bf,bt,bt,bt,bt,bt,bt,bt,ee]=.ok ((.ret,{t:=[(0,.str s),(2,.val (Value.slice none 0 0)),(3,iA 20),(4,iA (a:Int)),(5,.gs 100000 0 j),(6,iA (a:Int)),(7,iA (i:Int))],h:=[(100000,.arr 9 1 (List.map AV.str (List.take j p)) .own)]}),[aE 9999999],(decide ((j:Int)=16)=true)::(d6 (decide ((j:Int)=16)=true) (((!decide ((y.toNat:Int)=46))=false)::(d2 (decide ((i:Int)<(s.length:Int))=true) ((s[(i:Int).toNat]?=some y)::(d3 (decide ((i:Int)<(s.length:Int))=true) [decide ((i:Int)<=(s.length:Int))=true])))))):=kr
theorem b23_2 (W:World) (s:List UInt8) (p:List (List UInt8)) (a i j:Nat) (t:Int) (x:List UInt8) (y:UInt8):sQ W {lp:=true,tl:=[68]} 23 0 [] [0,2,3,4,5,6,7] (S23 s p a i j) [bt,bt,bt,bt,aE 1,Ans.byt (some y),bt,bt,bf,bf,bf,bf,bf,aE 1,.lg,bf,ee,cR (bA (segB x)) [],bf,bf,bt,ee]=.ok ((.ret,{t:=[(0,.str s),(2,.val (Value.slice none 0 0)),(3,iA 20),(4,iA (a:Int)),(5,.gs 100000 0 j),(6,iA (a:Int)),(7,iA (i:Int))],h:=[(100000,.arr 9 1 (List.map AV.str (List.take j p)) .own)]}),[ee],((!segB x)=true)::(d2 (decide ((j:Int)=16)=false) (MZ W 68 [.str (List.drop (a:Int).toNat (List.take (i:Int).toNat s))] [] (.ret (bA (segB x)) [])::(decide ((j:Int)=16)=false)::((a:Int)<=(i:Int)/\(i:Int)<=(s.length:Int))::(d4 (decide ((j:Int)=16)=false) (((!decide ((y.toNat:Int)=46))=false)::(d2 (decide ((i:Int)<(s.length:Int))=true) ((s[(i:Int).toNat]?=some y)::(d3 (decide ((i:Int)<(s.length:Int))=true) [decide ((i:Int)<=(s.length:Int))=true])))))))):=kr
theorem b23_3 (W:World) (s:List UInt8) (p:List (List UInt8)) (a i j:Nat) (t:Int) (x:List UInt8) (y:UInt8):sQ W {lp:=true,tl:=[68]} 23 0 [] [0,5,6,7] (S23 s p a i j) [bt,bt,bt,bt,aE 1,Ans.byt (some y),bt,bt,bf,bf,bf,bf,bf,aE 1,.lg,bf,ee,cR (bA (segB x)) [],bf,bf,bf,aE 1,.lg,aE 1,.lg,.lg,ee]=.ok ((.normal,{t:=[(0,.str s),(5,.gs 100002 0 (j+[AV.str (List.drop (a:Int).toNat (List.take (i:Int).toNat s))].length)),(6,iA (IntKind.i64.wrap ((i:Int)+1))),(7,iA (IntKind.i64.wrap ((i:Int)+1)))],h:=[(100000,.dead),(100001,.arr 9 1 [.str (List.drop (a:Int).toNat (List.take (i:Int).toNat s))] .own),(100002,.arr 9 1 (List.take j (List.map AV.str (List.take j p))++[AV.str (List.drop (a:Int).toNat (List.take (i:Int).toNat s))]) .own)]}),[ee],((j+[AV.str (List.drop (a:Int).toNat (List.take (i:Int).toNat s))].length) * 16<=140737488355328)::((St.own=St.own\/St.own=St.shr/\j=(List.map AV.str (List.take j p)).length)/\j<=(List.map AV.str (List.take j p)).length)::((a:Int)<=(i:Int)/\(i:Int)<=(s.length:Int))::((!segB x)=false)::(d2 (decide ((j:Int)=16)=false) (MZ W 68 [.str (List.drop (a:Int).toNat (List.take (i:Int).toNat s))] [] (.ret (bA (segB x)) [])::(decide ((j:Int)=16)=false)::((a:Int)<=(i:Int)/\(i:Int)<=(s.length:Int))::(d4 (decide ((j:Int)=16)=false) (((!decide ((y.toNat:Int)=46))=false)::(d2 (decide ((i:Int)<(s.length:Int))=true) ((s[(i:Int).toNat]?=some y)::(d3 (decide ((i:Int)<(s.length:Int))=true) [decide ((i:Int)<=(s.length:Int))=true])))))))):=kr
theorem b23_4 (W:World) (s:List UInt8) (p:List (List UInt8)) (a i j:Nat) (t:Int):sQ W {lp:=true,tl:=[68]} 23 0 [] [0,2,3,4,5,6,7] (S23 s p a i j) [bt,bf,bf,bf,bf,bf,aE 1,bt,bt,bt,bt,bt,bt,bt,ee]=.ok ((.ret,{t:=[(0,.str s),(2,.val (Value.slice none 0 0)),(3,iA 20),(4,iA (a:Int)),(5,.gs 100000 0 j),(6,iA (a:Int)),(7,iA (i:Int))],h:=[(100000,.arr 9 1 (List.map AV.str (List.take j p)) .own)]}),[aE 9999999],(decide ((j:Int)=16)=true)::(d6 (decide ((j:Int)=16)=true) ((decide ((i:Int)<(s.length:Int))=false)::(d4 (decide ((i:Int)<(s.length:Int))=false) [decide ((i:Int)<=(s.length:Int))=true])))):=kr
theorem b23_5 (W:World) (s:List UInt8) (p:List (List UInt8)) (a i j:Nat) (t:Int) (x:List UInt8):sQ W {lp:=true,tl:=[68]} 23 0 [] [0,2,3,4,5,6,7] (S23 s p a i j) [bt,bf,bf,bf,bf,bf,aE 1,bf,bf,bf,bf,aE 1,.lg,bf,ee,cR (bA (segB x)) [],bf,bf,bt,ee]=.ok ((.ret,{t:=[(0,.str s),(2,.val (Value.slice none 0 0)),(3,iA 20),(4,iA (a:Int)),(5,.gs 100000 0 j),(6,iA (a:Int)),(7,iA (i:Int))],h:=[(100000,.arr 9 1 (List.map AV.str (List.take j p)) .own)]}),[ee],((!segB x)=true)::(d2 (decide ((j:Int)=16)=false) (MZ W 68 [.str (List.drop (a:Int).toNat (List.take (i:Int).toNat s))] [] (.ret (bA (segB x)) [])::(decide ((j:Int)=16)=false)::((a:Int)<=(i:Int)/\(i:Int)<=(s.length:Int))::(d4 (decide ((j:Int)=16)=false) ((decide ((i:Int)<(s.length:Int))=false)::(d4 (decide ((i:Int)<(s.length:Int))=false) [decide ((i:Int)<=(s.length:Int))=true])))))):=kr
theorem b23_6 (W:World) (s:List UInt8) (p:List (List UInt8)) (a i j:Nat) (t:Int) (x:List UInt8):sQ W {lp:=true,tl:=[68]} 23 0 [] [0,5,6,7] (S23 s p a i j) [bt,bf,bf,bf,bf,bf,aE 1,bf,bf,bf,bf,aE 1,.lg,bf,ee,cR (bA (segB x)) [],bf,bf,bf,aE 1,.lg,aE 1,.lg,.lg,ee]=.ok ((.normal,{t:=[(0,.str s),(5,.gs 100002 0 (j+[AV.str (List.drop (a:Int).toNat (List.take (i:Int).toNat s))].length)),(6,iA (IntKind.i64.wrap ((i:Int)+1))),(7,iA (IntKind.i64.wrap ((i:Int)+1)))],h:=[(100000,.dead),(100001,.arr 9 1 [.str (List.drop (a:Int).toNat (List.take (i:Int).toNat s))] .own),(100002,.arr 9 1 (List.take j (List.map AV.str (List.take j p))++[AV.str (List.drop (a:Int).toNat (List.take (i:Int).toNat s))]) .own)]}),[ee],((j+[AV.str (List.drop (a:Int).toNat (List.take (i:Int).toNat s))].length) * 16<=140737488355328)::((St.own=St.own\/St.own=St.shr/\j=(List.map AV.str (List.take j p)).length)/\j<=(List.map AV.str (List.take j p)).length)::((a:Int)<=(i:Int)/\(i:Int)<=(s.length:Int))::((!segB x)=false)::(d2 (decide ((j:Int)=16)=false) (MZ W 68 [.str (List.drop (a:Int).toNat (List.take (i:Int).toNat s))] [] (.ret (bA (segB x)) [])::(decide ((j:Int)=16)=false)::((a:Int)<=(i:Int)/\(i:Int)<=(s.length:Int))::(d4 (decide ((j:Int)=16)=false) ((decide ((i:Int)<(s.length:Int))=false)::(d4 (decide ((i:Int)<(s.length:Int))=false) [decide ((i:Int)<=(s.length:Int))=true])))))):=kr
theorem b23_7 (W:World) (s:List UInt8) (p:List (List UInt8)) (a i j:Nat) (t:Int):sQ W {lp:=true,tl:=[68]} 23 0 [] [0,2,3,4,5,6,7] (S23 s p a i j) [bf,ee]=.ok ((.exit 0,{t:=[(0,.str s),(5,.gs 100000 0 j),(6,iA (a:Int)),(7,iA (i:Int))],h:=[(100000,.arr 9 1 (List.map AV.str (List.take j p)) .own)]}),[ee],[decide ((i:Int)<=(s.length:Int))=false]):=kr
theorem p23_0 (W:World) (s:List UInt8) (p:List (List UInt8)) (t:Int):sF W {fin:=9,lp:=true} 23 [.str s] [] 100000 [ee,.loopM [] [(100000,1)] (S23 s p 0 0 0) (.exit 0) (E23 p),ee,.fin [] [] (.tup [.gs 100000 0 p.length,iA 0,iA 0]) [(100000,.arr 9 1 (List.map AV.str p) .own)],ee] []=.ok (.ret (.tup [.gs 100000 0 p.length,iA 0,iA 0]) [(100000,.arr 9 1 (List.map AV.str p) .own)],[ee],[MatchK [] [] [] {t:=[(0,.tup [.gs 100000 0 p.length,iA 0,iA 0])],h:=[(100000,.arr 9 1 (List.map AV.str p) .own)]} {t:=[(0,.tup [.gs 100000 0 p.length,iA 0,iA 0])],h:=[(100000,.arr 9 1 (List.map AV.str p) .own)]},LZ W [] 23 0 (S23 s p 0 0 0) (.exit 0) (E23 p),MatchK [] [] [(100000,1)] {t:=[(0,.str s),(5,.val (Value.slice none 0 0)),(6,iA 0),(7,iA 0)],h:=[]} (S23 s p 0 0 0)]):=kr
theorem q23_0 (W:World) (s:List UInt8) (p:List (List UInt8)) (t:Int):sF W {lp:=true} 23 [.str s] [] 100000 [ee,.loopM [] [(100000,1)] (S23 s p 0 0 0) .ret (R76 t),ee] []=.ok (.ret (.tup [.val (Value.slice none 0 0),iA 20,iA t]) [],[ee],[LZ W [] 23 0 (S23 s p 0 0 0) .ret (R76 t),MatchK [] [] [(100000,1)] {t:=[(0,.str s),(5,.val (Value.slice none 0 0)),(6,iA 0),(7,iA 0)],h:=[]} (S23 s p 0 0 0)]):=kr
theorem call76:callable Tryz.prog 76=true:=kr
theorem call23:callable Tryz.prog 23=true:=kr
def parseAV (s:List UInt8):AV:=.tup [.sl 1 ((parseP s).map AV.str) [],iA (parseE s),iA (parseA s)]
theorem push_eq {p:List (List UInt8)} {i:Nat} {x:List UInt8} (hx:p[i]?=some x):List.take i (List.map AV.str (List.take i p))++[AV.str x]=List.map AV.str (List.take (i+1) p):=by
 rw [take_snoc hx,List.map_append,<-List.map_take,List.take_take,Nat.min_self];rfl
theorem indexByte_at (c:UInt8):∀ (l:List UInt8) (m:Nat),l[m]?=some c->(∀ k,k<m->l[k]? ≠ some c)->Lib.indexByte l c=(m:Int)
 | [],m,h,_=>by simp at h
 | x::l,0,h,_=>by
  have h:x=c:=by simpa using h
  simp [Lib.indexByte,h]
 | x::l,m+1,h,hn=>by
  have h0:¬ x=c:=fun e=>hn 0 (by omega) (by simp [e])
  have ih:=indexByte_at c l m (by simpa using h) fun k hk=>by have:=hn (k+1) (by omega);simpa using this
  simp only [Lib.indexByte,h0,beq_iff_eq,if_false,ih]
  split<;>omega
section
variable (W:World) (s:List UInt8) (p:List (List UInt8))
theorem step76 (hp:∀ x ∈ p,x.length<=2 ^ 30) (i:Nat) (t:Int) (hi:i<p.length) (h16:i<=16) (h0:0<=t) (ht:t<=i * (2 ^ 30+1)) (x:List UInt8) (hx:p[i]?=some x) (hb:¬ (segB x=false\/i=16)) :
 BodyC Tryz.prog W [] (nslots Tryz.prog 76) (loopOf Tryz.prog 76 0) (S76 p t i) .normal (S76 p (t+(x.length+1)) (i+1)):=by
 have hxl:=hp x (List.mem_of_getElem? hx)
 have hws:IntKind.i64.wrap ((i:Int)+1)=((i+1:Nat):Int):=wrap_succ (by omega)
 have hwt:IntKind.i64.wrap (t+IntKind.i64.wrap ((x.length:Int)+1))=t+((x.length:Int)+1):=by rw [IntWalk.i64_in ((x.length:Int)+1) (by omega),IntWalk.i64_in _ (by omega)]
 have hc:=mut_of_pure (by rfl) (segment116 W x)
 have hsx:(!segB x)=false:=by cases e:segB x with
  | true=>rfl
  | false=>exact absurd (.inl e) hb
 have h16':¬ i=16:=fun e=>hb (.inr e)
 have hget:(List.map AV.str p)[((i:Int)).toNat]?=some (AV.str x):=by rw [Int.toNat_natCast];exact strs_get hx
 exact body_of_sbodyK mixedz (b76_2 W p t i x) Fb5_z5 [(100000,100002)] [] Fb5_z1
theorem loop76 (hp:∀ x ∈ p,x.length<=2 ^ 30) (hn:scanV p 0 0=none):∀ q:Nat×Int,(q.1<=p.length/\q.1<=16/\scanV p 0 0=scanV (p.drop q.1) q.1 q.2/\0<=q.2/\q.2<=q.1 * (2 ^ 30+1)) →
 LoopC Tryz.prog W [] (nslots Tryz.prog 76) (loopOf Tryz.prog 76 0) (S76 p q.2 q.1) (.exit 0) (E76 p):=by
 refine loopC_inv (fun q:Nat×Int=>S76 p q.2 q.1) (fun q=>q.1<=p.length/\q.1<=16/\scanV p 0 0=scanV (p.drop q.1) q.1 q.2/\0<=q.2/\q.2<=q.1 * (2 ^ 30+1)) (fun q=>p.length - q.1) (by simp) ?_
 rintro ⟨i,t⟩ ⟨h1,h2,h3,h4,h5⟩
 simp only at h1 h2 h3 h4 h5
 by_cases hi:i<p.length
 ·left
  obtain ⟨x,hx⟩:=getOf hi
  have hxl:=hp x (List.mem_of_getElem? hx)
  by_cases hb:segB x=false\/i=16
  ·exfalso
   rw [hn,scan_stop hx hb] at h3;cases h3
  ·exact ⟨(i+1,t+(x.length+1)),⟨by simp only;omega,by simp only;omega,by simp only;rw [h3];exact scan_step hx hb,by simp only;omega,by simp only;omega⟩,by simp only;omega,step76 W p hp i t hi h2 h4 h5 x hx hb⟩
 ·right
  have hil:i=p.length:=by omega
  subst hil
  exact body_of_sbodyK mixedz (b76_3 W p t p.length) Fb5_z5 [] [] Fb5_z1
theorem loopR76 (hp:∀ x ∈ p,x.length<=2 ^ 30) {t0:Int} (hn:scanV p 0 0=some t0):∀ q:Nat×Int,(q.1<=p.length/\q.1<=16/\scanV p 0 0=scanV (p.drop q.1) q.1 q.2/\0<=q.2/\q.2<=q.1 * (2 ^ 30+1)) →
 LoopC Tryz.prog W [] (nslots Tryz.prog 76) (loopOf Tryz.prog 76 0) (S76 p q.2 q.1) .ret (R76 t0):=by
 refine loopC_inv (fun q:Nat×Int=>S76 p q.2 q.1) (fun q=>q.1<=p.length/\q.1<=16/\scanV p 0 0=scanV (p.drop q.1) q.1 q.2/\0<=q.2/\q.2<=q.1 * (2 ^ 30+1)) (fun q=>p.length - q.1) (by simp) ?_
 rintro ⟨i,t⟩ ⟨h1,h2,h3,h4,h5⟩
 simp only at h1 h2 h3 h4 h5
 by_cases hi:i<p.length
 ·obtain ⟨x,hx⟩:=getOf hi
  have hxl:=hp x (List.mem_of_getElem? hx)
  by_cases hb:segB x=false\/i=16
  ·right
   rw [hn,scan_stop hx hb] at h3
   obtain rfl:t0=t:=by simpa using h3
   have hget:(List.map AV.str p)[((i:Int)).toNat]?=some (AV.str x):=by rw [Int.toNat_natCast];exact strs_get hx
   have hc:=mut_of_pure (by rfl) (segment116 W x)
   cases e:segB x with
   | false =>
    have hsx:(!segB x)=true:=by rw [e];rfl
    exact body_of_sbodyK mixedz (b76_0 W p t0 i x) Fb5_z5 [] [] Fb5_z1
   | true =>
    have hsx:(!segB x)=false:=by rw [e];rfl
    have h16:i=16:=by rcases hb with hb|hb;(rw [e] at hb;cases hb);exact hb
    exact body_of_sbodyK mixedz (b76_1 W p t0 i x) Fb5_z5 [] [] Fb5_z1
  ·left
   exact ⟨(i+1,t+(x.length+1)),⟨by simp only;omega,by simp only;omega,by simp only;rw [h3];exact scan_step hx hb,by simp only;omega,by simp only;omega⟩,by simp only;omega,step76 W p hp i t hi h2 h4 h5 x hx hb⟩
 ·exfalso
  have hil:i=p.length:=by omega
  subst hil
  rw [hn,List.drop_length] at h3
  cases h3
theorem Parse76 (hs:s.length<=2 ^ 30):Pure Tryz.prog W 76 [.str s] (parseAV s):=by
 have hp:∀ x ∈ splitD 46 s,x.length<=2 ^ 30:=fun x hx=>by have:=splitD_part 46 s x hx;omega
 have hc:=mut_of_pure (by rfl) (Split115 W s hs)
 have hpl:(splitD 46 s).length<=2 ^ 30+1:=by have:=splitD_len 46 s;have:=countByte_le s 46;omega
 cases hq:scanV (splitD 46 s) 0 0 with
 | none =>
  have hlp:=loop76 W _ hp hq (0,0) ⟨by simp,by simp,by simp,by simp,by simp⟩
  have h:=mut_of_sfun mixedz call76 rfl (p76_0 W s (splitD 46 s) 0) Fb5_z6
  exact pure_frz [(100000,.arr 9 1 ((splitD 46 s).map AV.str) .own)] h (by intro q hq;simp only [List.mem_singleton] at hq;subst hq;exact ⟨by simp [hg],by simp [Frzable,cloL_str]⟩) (by
   simp [parseAV,parseP,parseE,parseA,hq,clA,clL,lk,iA];try exact List.take_of_length_le (by simp)) rfl
 | some t0 =>
  have hlp:=loopR76 W _ hp hq (0,0) ⟨by simp,by simp,by simp,by simp,by simp⟩
  refine pure_leR ?_ (pure_of_mut (by rfl) (mut_of_sfun mixedz call76 rfl (q76_0 W s (splitD 46 s) t0) Fb5_z6))
  unfold parseAV parseP parseE parseA
  rw [hq]
  exact .tup (.cons (.nil 1) (.cons (.refl _) (.cons (.refl _) .nil)))
theorem scan_head {a i j:Nat} (ha:a<=i) (hi:i<=s.length) (hsp:splitD 46 (s.drop a)=p.drop j) (hno:∀ k,a<=k->k<i->s[k]? ≠ some 46) (hend:i=s.length\/s[i]?=some 46) :
 p[j]?=some (List.drop a (List.take i s))/\(List.drop a (List.take i s)).length=i - a/\(i=s.length->j+1=p.length)/\(s[i]?=some 46->splitD 46 (s.drop (i+1))=p.drop (j+1)):=by
 have hlen:(List.drop a (List.take i s)).length=i - a:=by simp only [List.length_drop,List.length_take];omega
 have hdt:List.drop a (List.take i s)=(s.drop a).take (i - a):=by rw [List.drop_take]
 rcases hend with he|he
 ·have hneg:Lib.indexByte (s.drop a) 46<0:=(indexByte_neg 46 _).2 fun hm=>by
   obtain ⟨k,hk⟩:=List.getElem?_of_mem hm
   rw [List.getElem?_drop] at hk
   have:=(List.getElem?_eq_some_iff.1 hk).1
   exact hno (a+k) (by omega) (by omega) hk
  have e1:=splitD_one 46 _ hneg
  have e2:=hsp.symm.trans e1
  refine ⟨?_,hlen,fun _=>?_,fun h=>?_⟩
  ·have:=congrArg List.head? e2
   rw [List.head?_drop] at this
   rw [this,hdt,List.take_of_length_le (by simp only [List.length_drop];omega)];rfl
  ·have:=congrArg List.length e2
   simp only [List.length_drop,List.length_cons,List.length_nil] at this;omega
  ·have:=(List.getElem?_eq_some_iff.1 h).1;omega
 ·have hil:=(List.getElem?_eq_some_iff.1 he).1
  have hat:Lib.indexByte (s.drop a) 46=((i - a:Nat):Int):=indexByte_at 46 _ _ (by rw [List.getElem?_drop];rw [show a+(i - a)=i by omega];exact he) fun k hk=>by
   rw [List.getElem?_drop];exact hno (a+k) (by omega) (by omega)
  obtain ⟨e1,_⟩:=splitD_cut 46 _ _ hat
  have e2:=hsp.symm.trans e1
  refine ⟨?_,hlen,fun h=>by omega,fun _=>?_⟩
  ·have:=congrArg List.head? e2
   rw [List.head?_drop] at this
   rw [this,hdt];rfl
  ·have:=congrArg List.tail e2
   rw [List.tail_drop,List.tail_cons,List.drop_drop] at this
   rw [this];congr 2;omega
def ScanI (s:List UInt8) (p:List (List UInt8)) (q:Nat×Nat×Nat):Prop :=
 (q.1<=s.length/\q.2.1<=q.1/\splitD 46 (s.drop q.2.1)=p.drop q.2.2/\(∀ k,q.2.1<=k->k<q.1->s[k]? ≠ some 46)/\scanV p 0 0=scanV (p.drop q.2.2) q.2.2 q.2.1)\/(q.1=s.length+1/\q.2.2=p.length/\scanV p 0 0=none)
theorem step23 (hs:s.length<=2 ^ 30) (hpl:p.length<=2 ^ 30+1) (i a j:Nat) (h:ScanI s p (i,a,j)) (hi:i<=s.length) :
 (∃ q,ScanI s p q/\s.length+1 - q.1<s.length+1 - i/\BodyC Tryz.prog W [] (nslots Tryz.prog 23) (loopOf Tryz.prog 23 0) (S23 s p a i j) .normal (S23 s p q.2.1 q.1 q.2.2)) ∨
 (∃ t:Int,scanV p 0 0=some t/\BodyC Tryz.prog W [] (nslots Tryz.prog 23) (loopOf Tryz.prog 23 0) (S23 s p a i j) .ret (R76 t)):=by
 rcases h with ⟨_,h2,h3,h4,h5⟩|⟨h1,_,_⟩
 case inr=>simp only at h1;omega
 simp only at h2 h3 h4 h5
 have hws:IntKind.i64.wrap ((i:Int)+1)=((i+1:Nat):Int):=wrap_succ (by omega)
 by_cases hl:i<s.length
 ·obtain ⟨y,hy⟩:=getOf hl
  have hget:s[((i:Int)).toNat]?=some y:=by rw [Int.toNat_natCast];exact hy
  by_cases hd:(y.toNat:Int)=46
  case neg =>
   left
   have hne:s[i]? ≠ some 46:=by rw [hy];intro e;simp only [Option.some.injEq] at e;exact hd ((u8_eq y 46 46 rfl).2 e)
   have hsy:(!decide ((y.toNat:Int)=46))=true:=by rw [decide_eq_false hd];rfl
   exact ⟨(i+1,a,j),.inl ⟨by simp only;omega,by simp only;omega,h3,fun k k1 k2=>by
    simp only at k1 k2
    by_cases e:k=i
    ·subst e;exact hne
    ·exact h4 k k1 (by omega),h5⟩,by simp only;omega,body_of_sbodyK mixedz (b23_0 W s p a i j 0 y) Fb5_z5 [] [] Fb5_z1⟩
  have hdot:s[i]?=some 46:=by rw [hy,(u8_eq y 46 46 rfl).1 hd]
  have hsy:(!decide ((y.toNat:Int)=46))=false:=by rw [decide_eq_true hd];rfl
  obtain ⟨g1,g2,_,g4⟩:=scan_head s p h2 hi h3 h4 (.inr hdot)
  have hjl:j<p.length:=(List.getElem?_eq_some_iff.1 g1).1
  generalize hx:List.drop a (List.take i s)=x at g1 g2
  have hc:MutC Tryz.prog W 68 [AV.str (List.drop ((a:Int)).toNat (List.take ((i:Int)).toNat s))] [] (OutC.ret (bA (segB x)) []):=by
   rw [Int.toNat_natCast,Int.toNat_natCast,hx];exact mut_of_pure (by rfl) (segment68 W x (by omega))
  have hxx:AV.str (List.drop ((a:Int)).toNat (List.take ((i:Int)).toNat s))=AV.str x:=by rw [Int.toNat_natCast,Int.toNat_natCast,hx]
  by_cases h16:j=16
  ·exact .inr ⟨a,by rw [h5,scan_stop g1 (.inr h16)],body_of_sbodyK mixedz (b23_1 W s p a i j 0 y) Fb5_z5 [] [] Fb5_z1⟩
  cases e:segB x with
  | false =>
   have hsx:(!segB x)=true:=by rw [e];rfl
   exact .inr ⟨a,by rw [h5,scan_stop g1 (.inl e)],body_of_sbodyK mixedz (b23_2 W s p a i j 0 x y) Fb5_z5 [] [] Fb5_z1⟩
  | true =>
   have hsx:(!segB x)=false:=by rw [e];rfl
   left
   refine ⟨(i+1,i+1,j+1),.inl ⟨by simp only;omega,Nat.le_refl _,g4 hdot,fun k k1 k2=>by simp only at k1 k2;omega,?_⟩,by simp only;omega,body_of_sbodyK mixedz (b23_3 W s p a i j 0 x y) Fb5_z5 [(100000,100002)] [] Fb5_z1⟩
   rw [h5,scan_step g1 (by rintro (h|h);(rw [e] at h;cases h);exact h16 h)]
   simp only;congr 1;omega
 ·have hil:i=s.length:=by omega
  obtain ⟨g1,g2,g3,_⟩:=scan_head s p h2 hi h3 h4 (.inl hil)
  have hjl:j<p.length:=(List.getElem?_eq_some_iff.1 g1).1
  generalize hx:List.drop a (List.take i s)=x at g1 g2
  have hc:MutC Tryz.prog W 68 [AV.str (List.drop ((a:Int)).toNat (List.take ((i:Int)).toNat s))] [] (OutC.ret (bA (segB x)) []):=by
   rw [Int.toNat_natCast,Int.toNat_natCast,hx];exact mut_of_pure (by rfl) (segment68 W x (by omega))
  have hxx:AV.str (List.drop ((a:Int)).toNat (List.take ((i:Int)).toNat s))=AV.str x:=by rw [Int.toNat_natCast,Int.toNat_natCast,hx]
  by_cases h16:j=16
  ·exact .inr ⟨a,by rw [h5,scan_stop g1 (.inr h16)],body_of_sbodyK mixedz (b23_4 W s p a i j 0) Fb5_z5 [] [] Fb5_z1⟩
  cases e:segB x with
  | false =>
   have hsx:(!segB x)=true:=by rw [e];rfl
   exact .inr ⟨a,by rw [h5,scan_stop g1 (.inl e)],body_of_sbodyK mixedz (b23_5 W s p a i j 0 x) Fb5_z5 [] [] Fb5_z1⟩
  | true =>
   have hsx:(!segB x)=false:=by rw [e];rfl
   left
   have hj1:=g3 hil
   refine ⟨(i+1,i+1,j+1),.inr ⟨by simp only;omega,hj1,?_⟩,by simp only;omega,body_of_sbodyK mixedz (b23_6 W s p a i j 0 x) Fb5_z5 [(100000,100002)] [] Fb5_z1⟩
   rw [h5,scan_step g1 (by rintro (h|h);(rw [e] at h;cases h);exact h16 h),hj1,List.drop_length];rfl
theorem loop23 (hs:s.length<=2 ^ 30) (hpl:p.length<=2 ^ 30+1) (hn:scanV p 0 0=none):∀ q,ScanI s p q->LoopC Tryz.prog W [] (nslots Tryz.prog 23) (loopOf Tryz.prog 23 0) (S23 s p q.2.1 q.1 q.2.2) (.exit 0) (E23 p):=by
 refine loopC_inv (fun q:Nat×Nat×Nat=>S23 s p q.2.1 q.1 q.2.2) (ScanI s p) (fun q=>s.length+1 - q.1) (by simp) ?_
 rintro ⟨i,a,j⟩ h
 by_cases hi:i<=s.length
 ·rcases step23 W s p hs hpl i a j h hi with ⟨q,h1,h2,h3⟩|⟨t,h1,_⟩
  ·exact .inl ⟨q,h1,h2,h3⟩
  ·rw [hn] at h1;cases h1
 ·right
  rcases h with ⟨h1,_⟩|⟨h1,h2,_⟩
  ·exact absurd h1 hi
  simp only at h1 h2
  subst h2
  exact body_of_sbodyK mixedz (b23_7 W s p a i p.length 0) Fb5_z5 [] [] Fb5_z1
theorem loopR23 (hs:s.length<=2 ^ 30) (hpl:p.length<=2 ^ 30+1) {t0:Int} (hn:scanV p 0 0=some t0):∀ q,ScanI s p q->LoopC Tryz.prog W [] (nslots Tryz.prog 23) (loopOf Tryz.prog 23 0) (S23 s p q.2.1 q.1 q.2.2) .ret (R76 t0):=by
 refine loopC_inv (fun q:Nat×Nat×Nat=>S23 s p q.2.1 q.1 q.2.2) (ScanI s p) (fun q=>s.length+1 - q.1) (by simp) ?_
 rintro ⟨i,a,j⟩ h
 by_cases hi:i<=s.length
 ·rcases step23 W s p hs hpl i a j h hi with ⟨q,h1,h2,h3⟩|⟨t,h1,h2⟩
  ·exact .inl ⟨q,h1,h2,h3⟩
  ·rw [hn] at h1
   obtain rfl:t0=t:=by simpa using h1
   exact .inr h2
 ·exfalso
  rcases h with ⟨h1,_⟩|⟨_,_,h2⟩
  ·exact hi h1
  ·rw [hn] at h2;cases h2
theorem Parse23 (hs:s.length<=2 ^ 30):Pure Tryz.prog W 23 [.str s] (parseAV s):=by
 have hpl:(splitD 46 s).length<=2 ^ 30+1:=by have:=splitD_len 46 s;have:=countByte_le s 46;omega
 have hI:ScanI s (splitD 46 s) (0,0,0):=.inl ⟨by simp,by simp,by simp,by intro k _ h;simp only at h;omega,by simp⟩
 cases hq:scanV (splitD 46 s) 0 0 with
 | none =>
  have hlp:=loop23 W s _ hs hpl hq (0,0,0) hI
  have h:=mut_of_sfun mixedz call23 rfl (p23_0 W s (splitD 46 s) 0) Fb5_z6
  exact pure_frz [(100000,.arr 9 1 ((splitD 46 s).map AV.str) .own)] h (by intro q hq;simp only [List.mem_singleton] at hq;subst hq;exact ⟨by simp [hg],by simp [Frzable,cloL_str]⟩) (by
   simp [parseAV,parseP,parseE,parseA,hq,clA,clL,lk,iA];try exact List.take_of_length_le (by simp)) rfl
 | some t0 =>
  have hlp:=loopR23 W s _ hs hpl hq (0,0,0) hI
  refine pure_leR ?_ (pure_of_mut (by rfl) (mut_of_sfun mixedz call23 rfl (q23_0 W s (splitD 46 s) t0) Fb5_z6))
  unfold parseAV parseP parseE parseA
  rw [hq]
  exact .tup (.cons (.nil 1) (.cons (.refl _) (.cons (.refl _) .nil)))
end
end Go.Ac

namespace Go.Ac
open Go Go.Proofs
set_option maxRecDepth 10000
set_option maxHeartbeats 1000000
theorem encVs_app (a b:List JV):encVs (a++b)=encVs a++encVs b:=by simp only [encVs_map,List.map_append]
theorem encVs_push (acc r:List JV):List.take acc.length (encVs acc)++encVs r=encVs (acc++r):=by rw [<-encVs_len acc,List.take_length,encVs_app]
theorem cntVs_take:∀ (l:List JV) (i:Nat),cntVs (l.take i)<=cntVs l
 | [],i=>by simp
 | x::l,0=>by simp [cntVs]
 | x::l,i+1=>by have:=cntVs_take l i;simp only [List.take_succ_cons,cntVs];omega
section
variable (W:World) (l:List JV) (s:List UInt8) (p:List (List UInt8))
end
section
variable (W:World) (h:JH) (l:List JV) (s:List UInt8) (p:List (List UInt8))
end
theorem push1 (acc:List JV) (h:JH) (m:List JV):List.take acc.length (encVs acc)++[encV (.mk h m)]=encVs (acc++[.mk h m]):=encVs_push acc [.mk h m]
theorem push2 (acc:List JV) (h:JH) (m:List JV):List.take (acc.length+[encV (.mk h m)].length) (List.take acc.length (encVs acc)++[encV (.mk h m)])++encVs m=encVs (acc++(.mk h m::m)):=by
 rw [push1,show acc.length+[encV (.mk h m)].length=(acc++[JV.mk h m]).length by simp,encVs_push,List.append_assoc];rfl
section
variable (W:World) (l:List JV)
end
end Go.Ac

namespace Go.Ac
open Go Go.Proofs
set_option maxRecDepth 10000
set_option maxHeartbeats 1000000
section
variable (W:World)
end
end Go.Ac

namespace Go.Ac
open Go Go.Proofs
set_option maxRecDepth 10000
set_option maxHeartbeats 1000000
section
variable (W:World)
section
variable (h:JH) (l:List JV) (h2:JH) (l2:List JV)
end
end
end Go.Ac

namespace Go.Ac
open Go Go.Proofs
set_option maxRecDepth 10000
set_option maxHeartbeats 1000000
def termA (nm:List UInt8) (x:JV) (f:AV):AV:=.agg [.str nm,iA x.kind,iA x.int,.str x.text,.sl 1 (x.names.map AV.str) [],.sl 5 (encVs x.items) [],f]
section
variable (W:World)
def termsA (F:List UInt8×JV->AV) (ps:List (List UInt8×JV)):List AV:=ps.map fun p=>termA p.1 p.2 (F p)
end
end Go.Ac

namespace Go.Ac
open Go Go.Proofs
set_option maxRecDepth 10000
set_option maxHeartbeats 1000000
def kindsA (s:List UInt8):List AV:=if s=[110,117,108,108] then [iA 0] else if s=[98,111,111,108] then [iA 1,iA 2] else if s=[105,110,116] then [iA 3] else if s=[115,116,114,105,110,103] then [iA 4] else if s=[97,114,114,97,121] then [iA 5] else if s=[111,98,106,101,99,116] then [iA 6] else []
def fitsN (name:List UInt8):FuncId:=if name=sGt then 175 else if name=sGte then 176 else if name=sLt then 177 else 178
def asksA (T:List AV) (N:List AV) (name:List UInt8) (x:JV):AV :=
 if name=sEq then .fn (.func 170) [] [.ip (encV x) 0]
 else if name=sNe then .fn (.func 173) [] [.ip (encV x) 0]
 else if name=sGt\/name=sGte\/name=sLt\/name=sLte then .fn (.func 205) [] [.ip (encV x) 0,.ip (.val (.func (.func (fitsN name)) #[] #[])) 0]
 else if name=sIn then .fn (.func 210) [] [.ip (encV x) 0,.ip (bA true) 0]
 else if name=sNin then .fn (.func 210) [] [.ip (encV x) 0,.ip (bA false) 0]
 else if name=sAll then .fn (.func 212) [] [.ip (encV x) 0]
 else if name=sExists then .fn (.func 214) [] [.ip (encV x) 0]
 else if name=sType then .fn (.func 216) [] [.ip (.sl 1 (kindsA x.text) []) 0]
 else if name=sSize then .fn (.func 218) [] [.ip (encV x) 0]
 else if name=sMod then .fn (.func 220) [] [.ip (encV x) 0]
 else if name=sNot then .fn (.func 222) [] [.ip (.sl 7 T []) 0]
 else .fn (.func 227) [] [.ip (if (isTestB x && !joinsB (firstS x))=true then .fn (.func 225) [] [.ip (.sl 7 T []) 0] else .fn (.func 226) [] [.ip (.agg [.sl 1 N []]) 0]) 0]
theorem iA_inj {a b:Int}:a=b->iA a=iA b:=fun e=>by rw [e]
theorem bA_inj {a b:Bool}:a=b->bA a=bA b:=fun e=>by rw [e]
section
variable (W:World)
theorem type_cases {s:List UInt8} (h:0<=typeN s):s=[110,117,108,108]\/s=[98,111,111,108]\/s=[105,110,116]\/s=[115,116,114,105,110,103]\/s=[97,114,114,97,121]\/s=[111,98,106,101,99,116]:=by
 unfold typeN at h
 repeat' (split at h;· simp [*])
 omega
theorem op_cases {s:List UInt8} (h:isOp s=true):s=sEq\/s=sNe\/s=sGt\/s=sGte\/s=sLt\/s=sLte\/s=sIn\/s=sNin\/s=sAll\/s=sExists\/s=sType\/s=sSize\/s=sMod\/s=sNot\/s=sElem:=by
 simpa [isOp] using h
end
end Go.Ac

namespace Go.Ac
open Go Go.Proofs
set_option maxRecDepth 10000
set_option maxHeartbeats 1000000
theorem Fb11_z2 {cs} (h:Holds cs:=by simp only [Holds,and_true]<;>and_intros<;>first|exact zd):Holds cs:=h
def clauseA (s:List UInt8) (P T:List AV):AV:=.ifc 152 (.agg [.str s,.sl 1 P [],.sl 7 T []])
def groupA (s:List UInt8) (Q:List AV):AV:=.ifc 155 (.agg [.str s,.sl 1 Q []])
theorem p33_0 (W:World) (ns:List AV) (t:Int):sF W {lp:=true} 33 [.ip (.agg [.sl 1 ns [],iA t]) 0] [] 100000 [ee] []=.ok (.ret (iA t) [],[aE 9999999],[]):=kr
theorem call33:callable Tryz.prog 33=true:=kr
section
variable (W:World)
def nodesQ (G:JV->List AV) (l:List JV):List AV:=l.map fun y=>.ifc 105 (.agg [.sl 1 (G y) []])
end
mutual
def qN:Nat->JV->List AV
 | 0,_=>[]
 | n+1,q=>q.mems.map fun p=>if joinsB p.1 then groupA p.1 (nodesQ (qN n) p.2.items) else clauseA p.1 ((parseP p.1).map AV.str) (if isTestB p.2 then tT n p.2 else termsA (fun p=>asksA [] [] p.1 p.2) [(sEq,p.2)])
def tT:Nat->JV->List AV
 | 0,_=>[]
 | n+1,t=>termsA (fun p=>asksA (tT n p.2) (qN n p.2) p.1 p.2) t.mems
end
theorem foldX_all {α:Type} {f:α->Int->Except Int Int}:∀ {l:List α} {t t':Int},foldX f l t=.ok t'->∀ a ∈ l,∃ u u',f a u=.ok u'
 | [],t,t',h,a,ha=>by cases ha
 | x::l,t,t',h,a,ha=>by
  simp only [foldX] at h
  split at h
  ·rename_i t1 h1
   rcases List.mem_cons.1 ha with rfl|ha
   ·exact ⟨_,_,h1⟩
   ·exact foldX_all h a ha
  ·cases h
theorem mems_mem {v:JV} {p:List UInt8×JV} (h:p ∈ v.mems):p.1 ∈ v.names/\p.2 ∈ v.items:=by
 unfold JV.mems at h
 exact ⟨(List.of_mem_zip h).1,(List.of_mem_zip h).2⟩
theorem mem_item {v x:JV} (h:x ∈ v.items):cntV x<cntV v/\sizeV x<sizeV v:=by
 obtain ⟨i,hi⟩:=List.getElem?_of_mem h
 exact ⟨cntV_item hi,sizeV_item hi⟩
theorem mems_ln (v:JV):v.mems.length<=cntV v:=by
 have h1:=v.mems_len;have h2:=v.mem_items;have h3:=cntV_len v;omega
def filA (n:Nat) (q:JV) (t:Int):AV:=.ip (.agg [.sl 1 (qN n q) [],iA t]) 0
theorem terms33 (W:World) (n:Nat) (q:JV) (t:Int):Pure Tryz.prog W 33 [filA n q t] (iA t):=pure_of_mut rfl (mut_of_sfun mixedz call33 rfl (p33_0 W (qN n q) t) Fb11_z2)
end Go.Ac

namespace Go.Ac
open Go Go.Proofs
set_option maxRecDepth 10000
set_option maxHeartbeats 1000000
theorem Fb12_z1 {cs} (h:Holds cs:=by simp only [Holds,and_true]<;>and_intros<;>first|exact zd):Holds cs:=h
def rdH (t:Int):List (Nat×GE):=[(100000,.box (iA t) .own)]
def gaveA (e:Int):AV:=.ifc 98 (.agg [iA e])
def panO (e:Int):OutC:=.pan (gaveA e) [(100000,.box .top .own)]
theorem m169_0 (W:World) (h:JH) (l:List JV) (d t:Int):sF W {lp:=true,tl:=[]} 169 [.gp 100000 0,eV h l,iA d] (rdH t) 100001 [ee] []=.ok (.ret (.fn (Fn.func 170) [] [.gp 100001 0]) [(100000,gB (iA t)),(100001,gB (eV h l))],[ee],[]):=kr
theorem m172_0 (W:World) (h:JH) (l:List JV) (d t:Int):sF W {lp:=true,tl:=[]} 172 [.gp 100000 0,eV h l,iA d] (rdH t) 100001 [ee] []=.ok (.ret (.fn (Fn.func 173) [] [.gp 100001 0]) [(100000,gB (iA t)),(100001,gB (eV h l))],[ee],[]):=kr
theorem m204_0 (W:World) (h:JH) (l:List JV) (d t:Int) (c:AV):sF W {lp:=true,tl:=[]} 204 [.gp 100000 0,eV h l,iA d,.ip c 0] (rdH t) 100001 [ee] []=.ok (.ret (.fn (Fn.func 205) [] [.gp 100001 0,c.ip 0]) [(100000,gB (iA t)),(100001,gB (eV h l))],[ee],[]):=kr
theorem m208_1 (W:World) (h:JH) (l:List JV) (d t:Int) (w:Bool):sF W {lp:=true,tl:=[]} 208 [.gp 100000 0,eV h l,iA d,.ip (bA w) 0] (rdH t) 100001 [aE 1,bf,ee] []=.ok (.ret (.fn (Fn.func 210) [] [.gp 100001 0,(bA w).ip 0]) [(100000,gB (iA t)),(100001,gB (eV h l))],[ee],[(!decide (h.kind=5))=false]):=kr
theorem m180_1 (W:World) (h:JH) (l:List JV) (d t:Int):sF W {lp:=true,tl:=[]} 180 [.gp 100000 0,eV h l,iA d] (rdH t) 100001 [aE 1,bf,ee] []=.ok (.ret (.fn (Fn.func 212) [] [.gp 100001 0]) [(100000,gB (iA t)),(100001,gB (eV h l))],[ee],[(!decide (h.kind=5))=false]):=kr
theorem m181_0 (W:World) (h:JH) (l:List JV) (d t:Int):sF W {lp:=true,tl:=[]} 181 [.gp 100000 0,eV h l,iA d] (rdH t) 100001 [bt,bt,bt,bt,ee] []=.ok (.ret (.fn (Fn.func 214) [] [.gp 100001 0]) [(100000,gB (iA t)),(100001,gB (eV h l))],[aE 9999998],d4 (decide (h.kind=2)=true) []):=kr
theorem m181_2 (W:World) (h:JH) (l:List JV) (d t:Int):sF W {lp:=true,tl:=[]} 181 [.gp 100000 0,eV h l,iA d] (rdH t) 100001 [bf,bf,bf,bf,aE 1,bf,ee] []=.ok (.ret (.fn (Fn.func 214) [] [.gp 100001 0]) [(100000,gB (iA t)),(100001,gB (eV h l))],[ee],((!decide (h.kind=1))=false)::(d4 (decide (h.kind=2)=false) [])):=kr
theorem m183_1 (W:World) (h:JH) (l:List JV) (d t:Int):sF W {lp:=true,tl:=[]} 183 [.gp 100000 0,eV h l,iA d] (rdH t) 100001 [bt,bt,bt,bt,aE 1,bf,ee] []=.ok (.ret (.fn (Fn.func 218) [] [.gp 100001 0]) [(100000,gB (iA t)),(100001,gB (eV h l))],[ee],((!decide (0<=h.int))=false)::(d4 (decide (h.kind=3)=true) [])):=kr
theorem m184_1 (W:World) (h:JH) (l:List JV) (d t:Int) (h3:JH) (l3:List JV) (h4:JH) (l4:List JV):sF W {lp:=true,tl:=[]} 184 [.gp 100000 0,eV h l,iA d] (rdH t) 100001 [bt,bt,bt,bt,bt,bt,bt,bt,aE 1,oS (eV h3 l3),bt,bt,bt,bt,bt,bt,bt,aE 1,oS (eV h4 l4),bt,bt,bt,bt,bt,bt,bt,aE 1,oS (eV h3 l3),bt,bt,bt,bt,aE 1,bf,ee] []=.ok (.ret (.fn (Fn.func 220) [] [.gp 100001 0]) [(100000,gB (iA t)),(100001,gB (eV h l))],[ee],((!!decide (h3.int=0))=false)::(d4 (decide (h4.kind=3)=true) (((encVs l)[0]?=some (eV h3 l3))::(d3 (decide (h4.kind=3)=true) (d4 (decide (h3.kind=3)=true) (((encVs l)[1]?=some (eV h4 l4))::(d3 (decide (h3.kind=3)=true) (d4 (decide ((↑(encVs l).length:Int)=2)=true) (((encVs l)[0]?=some (eV h3 l3))::(d3 (decide ((↑(encVs l).length:Int)=2)=true) ((decide (h.kind=5)=true)::(d4 (decide (h.kind=5)=true) [])))))))))))):=kr
theorem m182_1 (W:World) (h:JH) (l:List JV) (d t:Int) (b:Bool) (T:List AV):sF W {lp:=true,tl:=[215]} 182 [.gp 100000 0,eV h l,iA d] (rdH t) 100001 [ee,cR (.tup [sL 1 T,bA b]) [],bt,bt,aE 1,bf,ee] []=.ok (.ret (.fn (Fn.func 216) [] [.gp 100002 0]) [(100000,gB (iA t)),(100002,gB (sL 1 T))],[ee],((!b)=false)::(d2 (decide (h.kind=4)=true) [MZ W 215 [.str h.3] [] (.ret (.tup [sL 1 T,bA b]) [])])):=kr
theorem m185_0 (W:World) (h:JH) (l:List JV) (d t t2:Int) (T:List AV):sF W {lp:=true,tl:=[111]} 185 [.gp 100000 0,eV h l,iA d] (rdH t) 100001 [ee,cR (sL 7 T) (rdH t2),ee] []=.ok (.ret (.fn (Fn.func 222) [] [.gp 100002 0]) [(100000,gB (iA t2)),(100002,gB (sL 7 T))],[ee],[MZ W 111 [.gp 100000 0,eV h l,iA (IntKind.i64.wrap (d+1))] [(100000,gB (iA t))] (.ret (sL 7 T) [(100000,gB (iA t2))])]):=kr
theorem m186_0 (W:World) (h:JH) (l:List JV) (d t t2:Int) (b b2:Bool) (T:List AV) (s:List UInt8):sF W {lp:=true,tl:=[110,107,111,63]} 186 [.gp 100000 0,eV h l,iA d] (rdH t) 100001 [ee,cR (bA b) [],bt,bt,bt,aE 1,oS (.str s),bt,bt,ee,cR (bA b2) [],bt,bt,bt,ee,cR (sL 7 T) (rdH t2),ee] []=.ok (.ret (.fn (Fn.func 227) [] [.gp 100002 0]) [(100000,gB (iA t2)),(100002,gB (.fn (Fn.func 225) [] [.gp 100003 0])),(100003,gB (sL 7 T))],[ee],[MZ W 111 [.gp 100000 0,eV h l,iA (IntKind.i64.wrap (d+1))] [(100000,gB (iA t))] (.ret (sL 7 T) [(100000,gB (iA t2))]),(!b2)=true,b=true,b=true,MZ W 107 [.str s] [] (.ret (bA b2) []),b=true,b=true,(List.map AV.str h.names)[0]?=some (AV.str s),b=true,b=true,b=true,MZ W 110 [eV h l] [] (.ret (bA b) [])]):=kr
theorem m186_1 (W:World) (h:JH) (l:List JV) (d t t2:Int) (b b2:Bool) (T:List AV) (s:List UInt8):sF W {lp:=true,tl:=[110,107,111,63]} 186 [.gp 100000 0,eV h l,iA d] (rdH t) 100001 [ee,cR (bA b) [],bt,bt,bt,aE 1,oS (.str s),bt,bt,ee,cR (bA b2) [],bt,bt,bf,ee,cR (.agg [sL 1 T]) (rdH t2),ee] []=.ok (.ret (.fn (Fn.func 227) [] [.gp 100002 0]) [(100000,gB (iA t2)),(100002,gB (.fn (Fn.func 226) [] [.gp 100003 0])),(100003,gB (.agg [sL 1 T]))],[ee],[MZ W 63 [.gp 100000 0,eV h l,iA (IntKind.i64.wrap (d+1))] [(100000,gB (iA t))] (.ret (.agg [sL 1 T]) [(100000,gB (iA t2))]),(!b2)=false,b=true,b=true,MZ W 107 [.str s] [] (.ret (bA b2) []),b=true,b=true,(List.map AV.str h.names)[0]?=some (AV.str s),b=true,b=true,b=true,MZ W 110 [eV h l] [] (.ret (bA b) [])]):=kr
theorem m186_2 (W:World) (h:JH) (l:List JV) (d t t2:Int) (b:Bool) (T:List AV):sF W {lp:=true,tl:=[110,107,111,63]} 186 [.gp 100000 0,eV h l,iA d] (rdH t) 100001 [ee,cR (bA b) [],bf,bf,bf,bf,bf,bf,bf,ee,cR (.agg [sL 1 T]) (rdH t2),ee] []=.ok (.ret (.fn (Fn.func 227) [] [.gp 100002 0]) [(100000,gB (iA t2)),(100002,gB (.fn (Fn.func 226) [] [.gp 100003 0])),(100003,gB (.agg [sL 1 T]))],[ee],[MZ W 63 [.gp 100000 0,eV h l,iA (IntKind.i64.wrap (d+1))] [(100000,gB (iA t))] (.ret (.agg [sL 1 T]) [(100000,gB (iA t2))]),b=false,b=false,b=false,b=false,b=false,b=false,b=false,MZ W 110 [eV h l] [] (.ret (bA b) [])]):=kr
theorem p110_0 (W:World) (h:JH) (l:List JV) (s:List UInt8) (x:UInt8):sF W {} 110 [eV h l] [] 100000 [bt,bt,bt,bt,bt,bt,bt,bt,bt,bt,bt,bt,bt,aE 1,oS (.str s),bt,bt,aE 1,bt,bt,aE 1,Ans.byt (some x),bt,bt,bt,ee] []=.ok (.ret (bA (decide ((x.toNat:Int)=36))) [],[ee],(decide (0<(↑(encVs l).length:Int))=true)::(d2 (decide (0<(s.length:Int))=true) ((s[0]?=some x)::(d2 (decide (0<(s.length:Int))=true) (d2 (decide (0<(↑(encVs l).length:Int))=true) (((List.map AV.str h.names)[0]?=some (AV.str s))::(d3 (decide (0<(↑(encVs l).length:Int))=true) ((decide (0<(↑(List.map AV.str h.names).length:Int))=true)::(d4 (decide (0<(↑(List.map AV.str h.names).length:Int))=true) ((decide (h.kind=6)=true)::(d4 (decide (h.kind=6)=true) []))))))))))):=kr
theorem p110_1 (W:World) (h:JH) (l:List JV) (s:List UInt8):sF W {} 110 [eV h l] [] 100000 [bt,bt,bt,bt,bt,bt,bt,bt,bt,bt,bt,bt,bt,aE 1,oS (.str s),bt,bt,aE 1,bf,bf,bf,bf,bt,ee] []=.ok (.ret (bA false) [],[ee],(decide (0<(↑(encVs l).length:Int))=true)::(d4 (decide (0<(s.length:Int))=false) (d2 (decide (0<(↑(encVs l).length:Int))=true) (((List.map AV.str h.names)[0]?=some (AV.str s))::(d3 (decide (0<(↑(encVs l).length:Int))=true) ((decide (0<(↑(List.map AV.str h.names).length:Int))=true)::(d4 (decide (0<(↑(List.map AV.str h.names).length:Int))=true) ((decide (h.kind=6)=true)::(d4 (decide (h.kind=6)=true) []))))))))):=kr
theorem p110_2 (W:World) (h:JH) (l:List JV):sF W {} 110 [eV h l] [] 100000 [bt,bt,bt,bt,bt,bt,bt,bt,bt,bt,bf,bf,bf,bf,bf,bf,ee] []=.ok (.ret (bA false) [],[ee],d6 (decide (0<(↑(encVs l).length:Int))=false) ((decide (0<(↑(List.map AV.str h.names).length:Int))=true)::(d4 (decide (0<(↑(List.map AV.str h.names).length:Int))=true) ((decide (h.kind=6)=true)::(d4 (decide (h.kind=6)=true) []))))):=kr
theorem p110_3 (W:World) (h:JH) (l:List JV):sF W {} 110 [eV h l] [] 100000 [bt,bt,bt,bt,bt,bf,bf,bf,bf,bf,ee] []=.ok (.ret (bA false) [],[aE 9999994],(decide (0<(↑(List.map AV.str h.names).length:Int))=false)::(d4 (decide (0<(↑(List.map AV.str h.names).length:Int))=false) ((decide (h.kind=6)=true)::(d4 (decide (h.kind=6)=true) [])))):=kr
theorem p110_4 (W:World) (h:JH) (l:List JV):sF W {} 110 [eV h l] [] 100000 [bf,bf,bf,bf,bf,ee] []=.ok (.ret (bA false) [],[aE 9999989],(decide (h.kind=6)=false)::(d4 (decide (h.kind=6)=false) [])):=kr
theorem p107_0 (W:World) (s:List UInt8):sF W {} 107 [.str s] [] 100000 [bt,bt,bt,ee] []=.ok (.ret (bA true) [],[aE 9999997],d3 (decide (s=[36,97,110,100])=true) []):=kr
theorem p107_1 (W:World) (s:List UInt8):sF W {} 107 [.str s] [] 100000 [bf,bf,bf,bt,bt,bt,ee] []=.ok (.ret (bA true) [],[ee],d3 (decide (s=[36,111,114])=true) (d3 (decide (s=[36,97,110,100])=false) [])):=kr
theorem p107_2 (W:World) (s:List UInt8):sF W {} 107 [.str s] [] 100000 [bf,bf,bf,bf,bf,bf,ee] []=.ok (.ret (bA (decide (s=[36,110,111,114]))) [],[ee],d3 (decide (s=[36,111,114])=false) (d3 (decide (s=[36,97,110,100])=false) [])):=kr
theorem p109_0 (W:World) (s:List UInt8) (x:UInt8):sF W {} 109 [.str s] [] 100000 [bt,bt,aE 1,Ans.byt (some x),bt,bt,ee] []=.ok (.ret (bA (decide ((x.toNat:Int)=36))) [],[ee],d2 (decide (0<(s.length:Int))=true) ((s[0]?=some x)::(d2 (decide (0<(s.length:Int))=true) []))):=kr
theorem p109_1 (W:World) (s:List UInt8):sF W {} 109 [.str s] [] 100000 [bf,bf,bf,bf,ee] []=.ok (.ret (bA false) [],[ee],d4 (decide (0<(s.length:Int))=false) []):=kr
theorem p215_null_0 (W:World):sF W {} 215 [.str [110,117,108,108]] [] 100000 [ee] []=.ok (.ret (.tup [.gs 100001 0 1,bA true]) [(100001,.arr 3 1 [iA 0] .own)],[ee],[]):=kr
theorem p215_bool_0 (W:World):sF W {} 215 [.str [98,111,111,108]] [] 100000 [ee] []=.ok (.ret (.tup [.gs 100002 0 2,bA true]) [(100002,.arr 3 1 [iA 1,iA 2] .own)],[ee],[]):=kr
theorem p215_int_0 (W:World):sF W {} 215 [.str [105,110,116]] [] 100000 [ee] []=.ok (.ret (.tup [.gs 100003 0 1,bA true]) [(100003,.arr 3 1 [iA 3] .own)],[ee],[]):=kr
theorem p215_string_0 (W:World):sF W {} 215 [.str [115,116,114,105,110,103]] [] 100000 [ee] []=.ok (.ret (.tup [.gs 100004 0 1,bA true]) [(100004,.arr 3 1 [iA 4] .own)],[ee],[]):=kr
theorem p215_array_0 (W:World):sF W {} 215 [.str [97,114,114,97,121]] [] 100000 [ee] []=.ok (.ret (.tup [.gs 100005 0 1,bA true]) [(100005,.arr 3 1 [iA 5] .own)],[ee],[]):=kr
theorem p215_object_0 (W:World):sF W {} 215 [.str [111,98,106,101,99,116]] [] 100000 [ee] []=.ok (.ret (.tup [.gs 100006 0 1,bA true]) [(100006,.arr 3 1 [iA 6] .own)],[ee],[]):=kr
theorem p148_0 (W:World):sF W {} 148 [] [] 100002 [ee] []=.ok (.ret (.mp 100002) [(100002,GE.map [(.str [36,101,113],.agg [.val (Value.func (Fn.func 169) #[] #[])]),(.str [36,110,101],.agg [.val (Value.func (Fn.func 172) #[] #[])]),(.str [36,103,116],.agg [.fn (Fn.func 204) [] [.gp 100003 0]]),(.str [36,103,116,101],.agg [.fn (Fn.func 204) [] [.gp 100004 0]]),(.str [36,108,116],.agg [.fn (Fn.func 204) [] [.gp 100005 0]]),(.str [36,108,116,101],.agg [.fn (Fn.func 204) [] [.gp 100006 0]]),(.str [36,105,110],.agg [.fn (Fn.func 208) [] [.gp 100007 0]]),(.str [36,110,105,110],.agg [.fn (Fn.func 208) [] [.gp 100008 0]]),(.str [36,97,108,108],.agg [.val (Value.func (Fn.func 180) #[] #[])]),(.str [36,101,120,105,115,116,115],.agg [.val (Value.func (Fn.func 181) #[] #[])]),(.str [36,116,121,112,101],.agg [.val (Value.func (Fn.func 182) #[] #[])]),(.str [36,115,105,122,101],.agg [.val (Value.func (Fn.func 183) #[] #[])]),(.str [36,109,111,100],.agg [.val (Value.func (Fn.func 184) #[] #[])]),(.str [36,110,111,116],.agg [.val (Value.func (Fn.func 185) #[] #[])]),(.str [36,101,108,101,109,77,97,116,99,104],.agg [.val (Value.func (Fn.func 186) #[] #[])])] .own),(100003,gB (.val (Value.func (Fn.func 175) #[] #[]))),(100004,gB (.val (Value.func (Fn.func 176) #[] #[]))),(100005,gB (.val (Value.func (Fn.func 177) #[] #[]))),(100006,gB (.val (Value.func (Fn.func 178) #[] #[]))),(100007,gB (bA true)),(100008,gB (bA false))],[aE 9999994],[]):=kr
theorem call169:callable Tryz.prog 169=true:=kr
theorem call172:callable Tryz.prog 172=true:=kr
theorem call204:callable Tryz.prog 204=true:=kr
theorem call208:callable Tryz.prog 208=true:=kr
theorem call180:callable Tryz.prog 180=true:=kr
theorem call181:callable Tryz.prog 181=true:=kr
theorem call182:callable Tryz.prog 182=true:=kr
theorem call183:callable Tryz.prog 183=true:=kr
theorem call184:callable Tryz.prog 184=true:=kr
theorem call185:callable Tryz.prog 185=true:=kr
theorem call186:callable Tryz.prog 186=true:=kr
theorem call107:callable Tryz.prog 107=true:=kr
theorem call109:callable Tryz.prog 109=true:=kr
theorem call110:callable Tryz.prog 110=true:=kr
theorem call215:callable Tryz.prog 215=true:=kr
theorem call148:callable Tryz.prog 148=true:=kr
def opsM:List (AV×AV):=[(.str [36,101,113],.agg [.val (.func (.func 169) #[] #[])]),(.str [36,110,101],.agg [.val (.func (.func 172) #[] #[])]),(.str [36,103,116],.agg [.fn (.func 204) [] [.ip (.val (.func (.func 175) #[] #[])) 0]]),(.str [36,103,116,101],.agg [.fn (.func 204) [] [.ip (.val (.func (.func 176) #[] #[])) 0]]),(.str [36,108,116],.agg [.fn (.func 204) [] [.ip (.val (.func (.func 177) #[] #[])) 0]]),(.str [36,108,116,101],.agg [.fn (.func 204) [] [.ip (.val (.func (.func 178) #[] #[])) 0]]),(.str [36,105,110],.agg [.fn (.func 208) [] [.ip (bA true) 0]]),(.str [36,110,105,110],.agg [.fn (.func 208) [] [.ip (bA false) 0]]),(.str [36,97,108,108],.agg [.val (.func (.func 180) #[] #[])]),(.str [36,101,120,105,115,116,115],.agg [.val (.func (.func 181) #[] #[])]),(.str [36,116,121,112,101],.agg [.val (.func (.func 182) #[] #[])]),(.str [36,115,105,122,101],.agg [.val (.func (.func 183) #[] #[])]),(.str [36,109,111,100],.agg [.val (.func (.func 184) #[] #[])]),(.str [36,110,111,116],.agg [.val (.func (.func 185) #[] #[])]),(.str [36,101,108,101,109,77,97,116,99,104],.agg [.val (.func (.func 186) #[] #[])])]
theorem ops148 (W:World):MutC Tryz.prog W 148 [] [] (.ret (.mp 100002) [(100002,.map opsM .own)]):=by
 have h1:=mut_frz [(100003,.box (.val (.func (.func 175) #[] #[])) .own),(100004,.box (.val (.func (.func 176) #[] #[])) .own),(100005,.box (.val (.func (.func 177) #[] #[])) .own),(100006,.box (.val (.func (.func 178) #[] #[])) .own),(100007,.box (bA true) .own),(100008,.box (bA false) .own)] (mut_of_sfun mixedz call148 rfl (p148_0 W) trivial) (by intro p hp;simp only [List.mem_cons,List.not_mem_nil,or_false] at hp;rcases hp with rfl|rfl|rfl|rfl|rfl|rfl<;>exact ⟨rfl,rfl⟩)
 have h2:=mut_clM [(100003,.box (.val (.func (.func 175) #[] #[])) .own),(100004,.box (.val (.func (.func 176) #[] #[])) .own),(100005,.box (.val (.func (.func 177) #[] #[])) .own),(100006,.box (.val (.func (.func 178) #[] #[])) .own),(100007,.box (bA true) .own),(100008,.box (bA false) .own)] h1 (by intro p hp;simp only [List.mem_cons,List.not_mem_nil,or_false] at hp;rcases hp with rfl|rfl|rfl|rfl|rfl|rfl<;>exact ⟨rfl,rfl⟩)
 exact mut_subK (r2:=.mp 100002) h2 (pruneK_ok (ks:=[0]) (by kernel_rfl))
theorem frz2 {k:Nat} {g:GE} {h1:List (Nat×GE)} (h:hg h1 k=some g) (hf:Frzable g):∀ p ∈ [(k,g)],hg h1 p.1=some p.2/\Frzable p.2:=by
 intro p hp;simp only [List.mem_singleton] at hp;subst hp;exact ⟨h,hf⟩
theorem first_mk (h:JH) (l:List JV):firstS (.mk h l)=if h.kind=6 then (match h.names.zip l with|[]=>[]|p::_=>p.1) else []:=rfl
theorem test_mk (h:JH) (l:List JV) (e:isTestB (.mk h l)=true):h.kind=6/\h.names[0]?=some (firstS (.mk h l))/\0<l.length:=by
 unfold isTestB at e
 rw [first_mk] at e ⊢
 by_cases k:h.kind=6
 ·rw [if_pos k] at e ⊢
  obtain ⟨k1,i1,t1,n1⟩:=h
  cases n1 with
  | nil=>simp [dollarB] at e
  | cons a r =>
   cases l with
   | nil=>simp [dollarB] at e
   | cons b l=>exact ⟨k,by simp,by simp⟩
 ·rw [if_neg k] at e;simp [dollarB] at e
section
variable (W:World)
theorem logical107 (s:List UInt8):Pure Tryz.prog W 107 [.str s] (bA (joinsB s)):=by
 by_cases e1:s=sAnd
 ·have e1':s=[36,97,110,100]:=e1
  exact goB (bA_inj (by simp [joinsB,e1])) rfl (mut_of_sfun mixedz call107 rfl (p107_0 W s) Fb12_z1)
 have e1':¬ s=[36,97,110,100]:=e1
 by_cases e2:s=sOr
 ·have e2':s=[36,111,114]:=e2
  exact goB (bA_inj (by simp [joinsB,e2])) rfl (mut_of_sfun mixedz call107 rfl (p107_1 W s) Fb12_z1)
 have e2':¬ s=[36,111,114]:=e2
 refine goB (bA_inj ?_) rfl (mut_of_sfun mixedz call107 rfl (p107_2 W s) Fb12_z1)
 rw [joinsB,decide_eq_false e1,decide_eq_false e2];rfl
theorem dollar109 (s:List UInt8):Pure Tryz.prog W 109 [.str s] (bA (dollarB s)):=by
 cases s with
 | nil=>exact pure_of_mut rfl (mut_of_sfun mixedz call109 rfl (p109_1 W []) Fb12_z1)
 | cons c s =>
  have hget:(c::s)[0]?=some c:=rfl
  refine goB (bA_inj ?_) rfl (mut_of_sfun mixedz call109 rfl (p109_0 W (c::s) c) Fb12_z1)
  rw [dollarB,Bool.eq_iff_iff,decide_eq_true_eq,decide_eq_true_eq,u8_eq c 36 36 rfl];simp
theorem isTest110 (v:JV):Pure Tryz.prog W 110 [encV v] (bA (isTestB v)):=by
 obtain ⟨h,l⟩:=v
 unfold isTestB
 rw [first_mk]
 by_cases k:h.kind=6
 case neg=>rw [if_neg k];exact pure_of_mut rfl (mut_of_sfun mixedz call110 rfl (p110_4 W h l) Fb12_z1)
 rw [if_pos k]
 obtain ⟨k1,i1,t1,n1⟩:=h
 cases n1 with
 | nil=>exact pure_of_mut rfl (mut_of_sfun mixedz call110 rfl (p110_3 W ⟨k1,i1,t1,[]⟩ l) Fb12_z1)
 | cons a r =>
  cases l with
  | nil=>exact pure_of_mut rfl (mut_of_sfun mixedz call110 rfl (p110_2 W ⟨k1,i1,t1,a::r⟩ []) Fb12_z1)
  | cons b l =>
   have hget:(List.map AV.str (a::r))[0]?=some (AV.str a):=rfl
   cases a with
   | nil=>exact pure_of_mut rfl (mut_of_sfun mixedz call110 rfl (p110_1 W ⟨k1,i1,t1,[]::r⟩ (b::l) []) Fb12_z1)
   | cons c s =>
    have hget2:(c::s)[0]?=some c:=rfl
    refine goB (bA_inj ?_) rfl (mut_of_sfun mixedz call110 rfl (p110_0 W ⟨k1,i1,t1,(c::s)::r⟩ (b::l) (c::s) c) Fb12_z1)
    simp only [List.zip_cons_cons]
    rw [dollarB,Bool.eq_iff_iff,decide_eq_true_eq,decide_eq_true_eq,u8_eq c 36 36 rfl];simp
theorem types215 {s:List UInt8} (h:0<=typeN s):Pure Tryz.prog W 215 [.str s] (.tup [.sl 1 (kindsA s) [],bA true]):=by
 rcases type_cases h with rfl|rfl|rfl|rfl|rfl|rfl
 ·exact pure_frz [(100001,.arr 3 1 [iA 0] .own)] (mut_of_sfun mixedz call215 rfl (p215_null_0 W) trivial) (frz2 rfl rfl) rfl rfl
 ·exact pure_frz [(100002,.arr 3 1 [iA 1,iA 2] .own)] (mut_of_sfun mixedz call215 rfl (p215_bool_0 W) trivial) (frz2 rfl rfl) rfl rfl
 ·exact pure_frz [(100003,.arr 3 1 [iA 3] .own)] (mut_of_sfun mixedz call215 rfl (p215_int_0 W) trivial) (frz2 rfl rfl) rfl rfl
 ·exact pure_frz [(100004,.arr 3 1 [iA 4] .own)] (mut_of_sfun mixedz call215 rfl (p215_string_0 W) trivial) (frz2 rfl rfl) rfl rfl
 ·exact pure_frz [(100005,.arr 3 1 [iA 5] .own)] (mut_of_sfun mixedz call215 rfl (p215_array_0 W) trivial) (frz2 rfl rfl) rfl rfl
 ·exact pure_frz [(100006,.arr 3 1 [iA 6] .own)] (mut_of_sfun mixedz call215 rfl (p215_object_0 W) trivial) (frz2 rfl rfl) rfl rfl
section
variable (x:JV) (d t:Int)
abbrev MkC (f:FuncId) (ex:List AV) (r:AV) (t':Int):Prop:=MutC Tryz.prog W f ([.gp 100000 0,encV x,iA d]++ex) (rdH t) (.ret r (rdH t'))
theorem mk_169:MkC W x d t 169 [] (.fn (.func 170) [] [.ip (encV x) 0]) t:=by
 obtain ⟨h,l⟩:=x
 exact mut_frzD [(100001,.box (encV (.mk h l)) .own)] (mut_of_sfun mixedz call169 rfl (m169_0 W h l d t) trivial) (frz2 rfl (encV_clo _)) rfl (by kernel_rfl)
theorem mk_172:MkC W x d t 172 [] (.fn (.func 173) [] [.ip (encV x) 0]) t:=by
 obtain ⟨h,l⟩:=x
 exact mut_frzD [(100001,.box (encV (.mk h l)) .own)] (mut_of_sfun mixedz call172 rfl (m172_0 W h l d t) trivial) (frz2 rfl (encV_clo _)) rfl (by kernel_rfl)
theorem mk_204 (c:AV):MkC W x d t 204 [.ip c 0] (.fn (.func 205) [] [.ip (encV x) 0,.ip c 0]) t:=by
 obtain ⟨h,l⟩:=x
 exact mut_frzD [(100001,.box (encV (.mk h l)) .own)] (mut_of_sfun mixedz call204 rfl (m204_0 W h l d t c) trivial) (frz2 rfl (encV_clo _)) rfl (by kernel_rfl)
theorem mk_208 (w:Bool) (hk:x.kind=5):MkC W x d t 208 [.ip (bA w) 0] (.fn (.func 210) [] [.ip (encV x) 0,.ip (bA w) 0]) t:=by
 obtain ⟨h,l⟩:=x
 have k5:h.kind=5:=hk
 have hb1:(!decide (h.kind=5))=false:=by rw [decide_eq_true k5];rfl
 exact mut_frzD [(100001,.box (encV (.mk h l)) .own)] (mut_of_sfun mixedz call208 rfl (m208_1 W h l d t w) Fb12_z1) (frz2 rfl (encV_clo _)) rfl (by kernel_rfl)
theorem mk_180 (hk:x.kind=5):MkC W x d t 180 [] (.fn (.func 212) [] [.ip (encV x) 0]) t:=by
 obtain ⟨h,l⟩:=x
 have k5:h.kind=5:=hk
 have hb1:(!decide (h.kind=5))=false:=by rw [decide_eq_true k5];rfl
 exact mut_frzD [(100001,.box (encV (.mk h l)) .own)] (mut_of_sfun mixedz call180 rfl (m180_1 W h l d t) Fb12_z1) (frz2 rfl (encV_clo _)) rfl (by kernel_rfl)
theorem mk_181 (hk:x.kind=1\/x.kind=2):MkC W x d t 181 [] (.fn (.func 214) [] [.ip (encV x) 0]) t:=by
 obtain ⟨h,l⟩:=x
 by_cases k2:h.kind=2
 ·exact mut_frzD [(100001,.box (encV (.mk h l)) .own)] (mut_of_sfun mixedz call181 rfl (m181_0 W h l d t) Fb12_z1) (frz2 rfl (encV_clo _)) rfl (by kernel_rfl)
 ·have k1:h.kind=1:=by rcases hk with hk|hk;exact hk;exact absurd hk k2
  have hb1:(!decide (h.kind=1))=false:=by rw [decide_eq_true k1];rfl
  exact mut_frzD [(100001,.box (encV (.mk h l)) .own)] (mut_of_sfun mixedz call181 rfl (m181_2 W h l d t) Fb12_z1) (frz2 rfl (encV_clo _)) rfl (by kernel_rfl)
theorem mk_183 (hk:x.kind=3) (hi:0<=x.int):MkC W x d t 183 [] (.fn (.func 218) [] [.ip (encV x) 0]) t:=by
 obtain ⟨h,l⟩:=x
 have k3:h.kind=3:=hk
 have i0:0<=h.int:=hi
 have hb1:(!decide (0<=h.int))=false:=by rw [decide_eq_true i0];rfl
 exact mut_frzD [(100001,.box (encV (.mk h l)) .own)] (mut_of_sfun mixedz call183 rfl (m183_1 W h l d t) Fb12_z1) (frz2 rfl (encV_clo _)) rfl (by kernel_rfl)
theorem mk_184 (a b:JV) (hk:x.kind=5) (hi:x.items=[a,b]) (ha:a.kind=3) (hb:b.kind=3) (h0:a.int ≠ 0):MkC W x d t 184 [] (.fn (.func 220) [] [.ip (encV x) 0]) t:=by
 obtain ⟨h,l⟩:=x
 obtain ⟨h3,l3⟩:=a
 obtain ⟨h4,l4⟩:=b
 simp only [JV.items] at hi
 subst hi
 have k5:h.kind=5:=hk
 have k3:h3.kind=3:=ha
 have k4:h4.kind=3:=hb
 have z0:¬ h3.int=0:=h0
 have hb1:(!!decide (h3.int=0))=false:=by rw [decide_eq_false z0];rfl
 have hget:(encVs [JV.mk h3 l3,JV.mk h4 l4])[0]?=some (encV (.mk h3 l3)):=rfl
 have hget2:(encVs [JV.mk h3 l3,JV.mk h4 l4])[1]?=some (encV (.mk h4 l4)):=rfl
 have hb2:decide (((encVs [JV.mk h3 l3,JV.mk h4 l4]).length:Int)=2)=true:=rfl
 exact mut_frzD [(100001,.box (encV (.mk h [JV.mk h3 l3,JV.mk h4 l4])) .own)] (mut_of_sfun mixedz call184 rfl (m184_1 W h [JV.mk h3 l3,JV.mk h4 l4] d t h3 l3 h4 l4) Fb12_z1) (frz2 rfl (encV_clo _)) rfl (by kernel_rfl)
theorem mk_182 (hk:x.kind=4) (ht:0<=typeN x.text):MkC W x d t 182 [] (.fn (.func 216) [] [.ip (.sl 1 (kindsA x.text) []) 0]) t:=by
 have hc:=mut_of_pure (by rfl) (types215 W ht)
 obtain ⟨h,l⟩:=x
 have k4:h.kind=4:=hk
 have hb1:(!true)=false:=rfl
 exact mut_frzD [(100002,.box (.sl 1 (kindsA h.text) []) .own)] (mut_of_sfun mixedz call182 rfl (m182_1 W h l d t true (kindsA h.text)) Fb12_z1) (frz2 rfl rfl) rfl (by kernel_rfl)
theorem mk_185 (hd:0<=d/\d<=2 ^ 30) (T:List AV) (t':Int) (hT:MutC Tryz.prog W 111 [.gp 100000 0,encV x,iA (d+1)] (rdH t) (.ret (.sl 7 T []) (rdH t'))):MkC W x d t 185 [] (.fn (.func 222) [] [.ip (.sl 7 T []) 0]) t':=by
 have hwd:IntKind.i64.wrap (d+1)=d+1:=IntWalk.i64_in _ (by omega)
 have hc:MutC Tryz.prog W 111 [.gp 100000 0,encV x,iA (IntKind.i64.wrap (d+1))] (rdH t) (.ret (.sl 7 T []) (rdH t')):=by rw [hwd];exact hT
 obtain ⟨h,l⟩:=x
 exact mut_frzD [(100002,.box (.sl 7 T []) .own)] (mut_of_sfun mixedz call185 rfl (m185_0 W h l d t t' T) Fb12_z1) (frz2 rfl rfl) rfl (by kernel_rfl)
theorem mk_186 (hd:0<=d/\d<=2 ^ 30) (T N:List AV) (t':Int) (hT:(isTestB x && !joinsB (firstS x))=true->MutC Tryz.prog W 111 [.gp 100000 0,encV x,iA (d+1)] (rdH t) (.ret (.sl 7 T []) (rdH t')))
 (hQ:(isTestB x && !joinsB (firstS x))=false->MutC Tryz.prog W 63 [.gp 100000 0,encV x,iA (d+1)] (rdH t) (.ret (.agg [.sl 1 N []]) (rdH t'))) :
 MkC W x d t 186 [] (.fn (.func 227) [] [.ip (if (isTestB x && !joinsB (firstS x))=true then .fn (.func 225) [] [.ip (.sl 7 T []) 0] else .fn (.func 226) [] [.ip (.agg [.sl 1 N []]) 0]) 0]) t':=by
 have hwd:IntKind.i64.wrap (d+1)=d+1:=IntWalk.i64_in _ (by omega)
 have hc1:=mut_of_pure (by simp only [cloL,encV_clo,Bool.and_self]) (isTest110 W x)
 have hc2:=mut_of_pure (by rfl) (logical107 W (firstS x))
 have fin1:∀ {h:JH} {l:List JV} (g:FuncId) (c:AV),c.clo=true->MutC Tryz.prog W 186 [.gp 100000 0,encV (.mk h l),iA d] (rdH t) (.ret (.fn (.func 227) [] [.gp 100002 0]) [(100000,.box (iA t') .own),(100002,.box (.fn (.func g) [] [.gp 100003 0]) .own),(100003,.box c .own)]) →
  clA [(100003,GE.box c .own)] c=c->MutC Tryz.prog W 186 [.gp 100000 0,encV (.mk h l),iA d] (rdH t) (.ret (.fn (.func 227) [] [.ip (.fn (.func g) [] [.ip c 0]) 0]) (rdH t')):=by
  intro h l g c hcc hM he
  have h2:=mut_frz [(100003,.box c .own)] hM (frz2 rfl hcc)
  exact mut_frzD [(100002,.box (.fn (.func g) [] [.ip c 0]) .own)] h2 (frz2 rfl rfl) rfl (by kernel_rfl)
 cases e:isTestB x with
 | true =>
  have hc1':=hc1
  rw [e] at hc1' hT hQ
  rw [Bool.true_and] at hT hQ ⊢
  cases e2:joinsB (firstS x) with
  | false =>
   rw [if_pos (by rfl)]
   have hc3:MutC Tryz.prog W 111 [.gp 100000 0,encV x,iA (IntKind.i64.wrap (d+1))] (rdH t) (.ret (.sl 7 T []) (rdH t')):=by rw [hwd];exact hT (by rw [e2];rfl)
   have hc2':=hc2
   rw [e2] at hc2'
   obtain ⟨h,l⟩:=x
   have hget:(List.map AV.str h.names)[0]?=some (AV.str (firstS (.mk h l))):=strs_get (test_mk h l e).2.1
   exact fin1 225 _ rfl (mut_of_sfun mixedz call186 rfl (m186_0 W h l d t t' true false T (firstS (.mk h l))) Fb12_z1) rfl
  | true =>
   rw [if_neg (by decide)]
   have hc3:MutC Tryz.prog W 63 [.gp 100000 0,encV x,iA (IntKind.i64.wrap (d+1))] (rdH t) (.ret (.agg [.sl 1 N []]) (rdH t')):=by rw [hwd];exact hQ (by rw [e2];rfl)
   have hc2':=hc2
   rw [e2] at hc2'
   obtain ⟨h,l⟩:=x
   have hget:(List.map AV.str h.names)[0]?=some (AV.str (firstS (.mk h l))):=strs_get (test_mk h l e).2.1
   exact fin1 226 _ rfl (mut_of_sfun mixedz call186 rfl (m186_1 W h l d t t' true true N (firstS (.mk h l))) Fb12_z1) rfl
 | false =>
  have hc1':=hc1
  rw [e] at hc1' hT hQ
  rw [Bool.false_and] at hT hQ ⊢
  rw [if_neg (by decide)]
  have hc3:MutC Tryz.prog W 63 [.gp 100000 0,encV x,iA (IntKind.i64.wrap (d+1))] (rdH t) (.ret (.agg [.sl 1 N []]) (rdH t')):=by rw [hwd];exact hQ rfl
  obtain ⟨h,l⟩:=x
  exact fin1 226 _ rfl (mut_of_sfun mixedz call186 rfl (m186_2 W h l d t t' false N) Fb12_z1) rfl
end
end
end Go.Ac

