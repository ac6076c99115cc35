/- What is proved: contracts of functions of this translation, walked; their plain meaning. No condition beyond those that each theorem names. -/
import Derived.Test.YtncgllgnilhcjaaGreatDoorMb1
set_option linter.all false
namespace Go.Ac
open Go
set_option maxRecDepth 4000
def anyC (p:List (List UInt8)) (l:List (List (List UInt8))):Bool:=l.any fun q=>clashB p q
def cBG:List (List (List UInt8))->List (List (List UInt8))->Bool
 | _,[]=>false
 | pre,p::l=>anyC p pre || cBG (pre++[p]) l
def cB (ps:List (List (List UInt8))):Bool:=cBG [] ps
theorem cBG_app:∀ (l pre:List (List (List UInt8))) (p:List (List UInt8)),cBG pre (l++[p])=(cBG pre l || anyC p (pre++l))
 | [],pre,p=>by simp [cBG]
 | q::l,pre,p=>by
  rw [List.cons_append,cBG,cBG_app l,cBG,Bool.or_assoc,List.append_assoc,List.singleton_append]
theorem cB_app (l:List (List (List UInt8))) (p:List (List UInt8)):cB (l++[p])=(cB l || anyC p l):=by rw [cB,cBG_app];rfl
theorem restsG_bd (s:List UInt8):∀ (l out:List (List (List UInt8))),(restsG s out l).1.length<=out.length+l.length
 | [],out=>by simp [restsG]
 | p::l,out=>by
  rw [restsG]
  split
  ·split
   ·simp
   ·have:=restsG_bd s l (out++[p.tail])
    simp only [List.length_append,List.length_cons,List.length_nil] at this ⊢;omega
  ·have:=restsG_bd s l out
   simp only [List.length_cons];omega
theorem rests_len (ps:List (List (List UInt8))) (s:List UInt8):(restsV ps s).1.length<=ps.length:=by have:=restsG_bd s ps [];simpa [restsV] using this
theorem restsG_ne (s:List UInt8):∀ (l out:List (List (List UInt8))),(∀ q ∈ out,q ≠ [])->(∀ q ∈ l,q ≠ [])->∀ q ∈ (restsG s out l).1,q ≠ []
 | [],out,h,_=>by simpa [restsG] using h
 | p::l,out,h,hl=>by
  rw [restsG]
  have hl2:∀ q ∈ l,q ≠ []:=fun q hq=>hl q (by simp [hq])
  split
  ·split
   ·simp
   ·rename_i hn
    refine restsG_ne s l _ (fun q hq=>?_) hl2
    rcases List.mem_append.1 hq with e|e
    ·exact h q e
    ·simp only [List.mem_singleton] at e
     subst e
     intro e2
     have hp:=hl p (by simp)
     cases p with
     | nil=>exact hp rfl
     | cons a b=>simp only [List.tail_cons] at e2;subst e2;exact hn rfl
  ·exact restsG_ne s l out h hl2
theorem rests_ne {ps:List (List (List UInt8))} (h:∀ q ∈ ps,q ≠ []) (s:List UInt8):∀ q ∈ (restsV ps s).1,q ≠ []:=restsG_ne s ps [] (by simp) h
theorem restsG_snd (s:List UInt8):∀ (l out:List (List (List UInt8))),(restsG s out l).2=true->(restsG s out l).1=[]
 | [],out=>by simp [restsG]
 | p::l,out=>by
  rw [restsG]
  split
  ·split
   ·simp
   ·exact restsG_snd s l _
  ·exact restsG_snd s l _
mutual
theorem thr_cnt (b:Bool):∀ (ps:List (List (List UInt8))) (v:JV),cntV (thrV b ps v)<=cntV v
 | ps,.mk h l=>by
  rw [thrV]
  split
  ·have:=thrL_cnt b ps l;simp only [cntV,List.length_nil];omega
  ·split
   ·have:=thrM_cnt b ps h.names l;simp only [cntV];omega
   ·exact Nat.le_refl _
theorem thrL_cnt (b:Bool):∀ (ps:List (List (List UInt8))) (l:List JV),cntVs (thrL b ps l)<=cntVs l
 | ps,[]=>by simp [thrL,cntVs]
 | ps,x::l=>by
  have:=thr_cnt b ps x;have:=thrL_cnt b ps l
  rw [thrL]
  split
  ·simp only [cntVs];omega
  ·simp only [cntVs];omega
theorem thrM_cnt (b:Bool):∀ (ps:List (List (List UInt8))) (ns:List (List UInt8)) (l:List JV),(thrM b ps ns l).1.length+cntVs (thrM b ps ns l).2<=ns.length+cntVs l
 | ps,ns,[]=>by cases ns<;>simp [thrM,cntVs]
 | ps,[],x::l=>by simp [thrM,cntVs]
 | ps,s::ns,x::l=>by
  have h1:=thr_cnt b (restsV ps s).1 x;have h2:=thrM_cnt b ps ns l
  rw [thrM]
  split
  ·simp only [cntVs,List.length_cons];omega
  ·split
   ·simp only [cntVs,List.length_cons];omega
   ·simp only [cntVs,List.length_cons];omega
end
mutual
theorem parts_cnt:∀ (v:JV) (m:Int),partsV v m<=m->(cntV v:Int)=partsV v m
 | .mk h l,m,hm=>by
  rw [partsV] at hm ⊢
  rw [cntV]
  have:=partsL_cnt l m (1+h.names.length) hm
  omega
theorem partsL_cnt:∀ (l:List JV) (m n:Int),partsL l m n<=m->(cntVs l:Int)+n=partsL l m n
 | [],m,n,hm=>by simp [partsL,cntVs]
 | x::l,m,n,hm=>by
  rw [partsL] at hm ⊢
  split at hm
  ·rename_i e
   rw [if_pos e]
   have h2:=partsL_cnt l m _ hm
   have h0:n+partsV x (m - n)<=m:=by have:(0:Int)<=cntVs l:=Int.natCast_nonneg _;omega
   have h1:=parts_cnt x (m - n) (by omega)
   rw [cntVs];omega
  ·rename_i e;exact absurd hm e
end
end Go.Ac

namespace Go.Ac
open Go Go.Proofs
set_option maxRecDepth 10000
set_option maxHeartbeats 1000000
def R4i (n:Int):AS:=⟨[(4,iA n)],[]⟩
def S18 (h:JH) (l:List JV) (d:Int) (i:Nat):AS:=⟨[(1,iA d),(2,.gp 100000 0),(6,iA i)],[(100000,.box (encV (.mk h l)) .own)]⟩
def S13 (h:JH) (l:List JV) (i:Nat):AS:=⟨[(1,.gp 100000 0),(3,iA i)],[(100000,.box (encV (.mk h l)) .own)]⟩
def S16 (h:JH) (l:List JV) (n:Int) (i:Nat):AS:=⟨[(1,.gp 100000 0),(3,iA n),(4,iA i)],[(100000,.box (encV (.mk h l)) .own)]⟩
def E16 (n:Int):AS:=⟨[(3,iA n)],[]⟩
def ppA (ps:List (List (List UInt8))):List AV:=ps.map fun p=>.sl 1 (p.map AV.str) []
def S47 (ps out:List (List (List UInt8))) (s:List UInt8) (i:Nat):AS:=⟨[(1,.str s),(6,.gs 100000 0 out.length),(9,.sl 1 (ppA ps) []),(10,iA (ppA ps).length),(11,iA i)],[(100000,.arr 22 1 (ppA out) .own)]⟩
def E47 (out:List (List (List UInt8))):AS:=⟨[(6,.gs 100000 0 out.length)],[(100000,.arr 22 1 (ppA out) .own)]⟩
def R47:AS:=⟨[(4,.val (.slice none 0 0)),(5,bA true)],[]⟩
def S24 (ps:List (List (List UInt8))) (i:Nat):AS:=⟨[(0,.sl 1 (ppA ps) []),(4,iA i)],[]⟩
def T24 (ps:List (List (List UInt8))) (i k:Nat):AS:=⟨[(0,.sl 1 (ppA ps) []),(4,iA i),(5,iA k)],[]⟩
def R24 (i:Nat):AS:=⟨[(2,iA i),(3,bA true)],[]⟩
def S45 (p:List (List UInt8)) (i:Nat):AS:=⟨[(0,.sl 1 (p.map AV.str) []),(1,.val (.func (.func 73) #[] #[])),(7,iA (p.map AV.str).length),(8,iA i)],[]⟩
theorem p22_0 (W:World) (h:JH) (l:List JV):sF W {lp:=true} 57 [eV h l] [] 100000 [bt,ee] []=.ok (.ret (iA (↑(List.map AV.str h.names).length:Int)) [],[ee],[decide ((↑(List.map AV.str h.names).length:Int)<(↑(encVs l).length:Int))=true]):=kr
theorem p22_1 (W:World) (h:JH) (l:List JV):sF W {lp:=true} 57 [eV h l] [] 100000 [bf,ee] []=.ok (.ret (iA (↑(encVs l).length:Int)) [],[ee],[decide ((↑(List.map AV.str h.names).length:Int)<(↑(encVs l).length:Int))=false]):=kr
theorem p47_0 (W:World) (ps out:List (List (List UInt8))) (s:List UInt8):sF W {lp:=true,fin:=9} 97 [.sl 1 (ppA ps) [],.str s] [] 100000 [ee,.loopM [] [(100000,1)] (S47 ps [] s 0) (.exit 0) (E47 out),ee,.fin [] [] (.tup [.gs 100000 0 out.length,bA false]) [(100000,.arr 22 1 (ppA out) .own)],ee] []=.ok (.ret (.tup [.gs 100000 0 out.length,bA false]) [(100000,.arr 22 1 (ppA out) .own)],[ee],[MatchK [] [] [] {t:=[(0,.tup [.gs 100000 0 out.length,bA false])],h:=[(100000,.arr 22 1 (ppA out) .own)]} {t:=[(0,.tup [.gs 100000 0 out.length,bA false])],h:=[(100000,.arr 22 1 (ppA out) .own)]},LZ W [] 97 0 (S47 ps [] s 0) (.exit 0) (E47 out),MatchK [] [] [(100000,1)] {t:=[(1,.str s),(6,.val (Value.slice none 0 0)),(9,sL 1 (ppA ps)),(10,iA (↑(ppA ps).length:Int)),(11,iA 0)],h:=[]} (S47 ps [] s 0)]):=kr
theorem q47_0 (W:World) (ps:List (List (List UInt8))) (s:List UInt8):sF W {lp:=true} 97 [.sl 1 (ppA ps) [],.str s] [] 100000 [ee,.loopM [] [(100000,1)] (S47 ps [] s 0) .ret R47,ee] []=.ok (.ret (.tup [.val (Value.slice none 0 0),bA true]) [],[ee],[LZ W [] 97 0 (S47 ps [] s 0) .ret R47,MatchK [] [] [(100000,1)] {t:=[(1,.str s),(6,.val (Value.slice none 0 0)),(9,sL 1 (ppA ps)),(10,iA (↑(ppA ps).length:Int)),(11,iA 0)],h:=[]} (S47 ps [] s 0)]):=kr
theorem p24_0 (W:World) (ps:List (List (List UInt8))):sF W {lp:=true} 60 [.sl 1 (ppA ps) []] [] 100000 [ee,.loopM [] [] (S24 ps 0) (.exit 0) E0,ee] []=.ok (.ret (.tup [iA 0,bA false]) [],[ee],[LZ W [] 60 0 (S24 ps 0) (.exit 0) E0,MatchK [] [] [] {t:=[(0,sL 1 (ppA ps)),(4,iA 0)],h:=[]} (S24 ps 0)]):=kr
theorem q24_0 (W:World) (ps:List (List (List UInt8))) (i:Nat):sF W {lp:=true} 60 [.sl 1 (ppA ps) []] [] 100000 [ee,.loopM [] [] (S24 ps 0) .ret (R24 i),ee] []=.ok (.ret (.tup [iA (i:Int),bA true]) [],[ee],[LZ W [] 60 0 (S24 ps 0) .ret (R24 i),MatchK [] [] [] {t:=[(0,sL 1 (ppA ps)),(4,iA 0)],h:=[]} (S24 ps 0)]):=kr
theorem p45_0 (W:World) (p:List (List UInt8)):sF W {lp:=true} 95 [.sl 1 (p.map AV.str) [],.val (.func (.func 73) #[] #[])] [] 100000 [ee,.loopM [] [] (S45 p 0) (.exit 0) E0,ee] []=.ok (.ret (iA (-1)) [],[ee],[LZ W [] 95 0 (S45 p 0) (.exit 0) E0,MatchK [] [] [] {t:=[(0,sL 1 (List.map AV.str p)),(1,.val (Value.func (Fn.func 73) #[] #[])),(7,iA (↑(List.map AV.str p).length:Int)),(8,iA 0)],h:=[]} (S45 p 0)]):=kr
theorem p26_0 (W:World) (p:List (List UInt8)) (n:Int):sF W {lp:=true,tl:=[95]} 72 [.sl 1 (p.map AV.str) [],.val (.func (.func 73) #[] #[])] [] 100000 [ee,cR (iA n) [],ee] []=.ok (.ret (bA (decide (0<=n))) [],[ee],[MZ W 95 [sL 1 (List.map AV.str p),.val (Value.func (Fn.func 73) #[] #[])] [] (.ret (iA n) [])]):=kr
theorem b47_0 (W:World) (ps out:List (List (List UInt8))) (p:List (List UInt8)) (s x:List UInt8) (i:Nat):sQ W {lp:=true} 97 0 [] [1,4,5,6,9,10,11] (S47 ps out s i) [bt,aE 1,oS (sL 1 (List.map AV.str p)),aE 1,oS (.str x),bt,ee]=.ok ((.normal,{t:=[(1,.str s),(6,.gs 100000 0 out.length),(9,sL 1 (ppA ps)),(10,iA (↑(ppA ps).length:Int)),(11,iA (IntKind.i64.wrap ((i:Int)+1)))],h:=[(100000,.arr 22 1 (ppA out) .own)]}),[ee],[(!decide (x=s))=true,(List.map AV.str p)[0]?=some (AV.str x),(ppA ps)[(i:Int).toNat]?=some (sL 1 (List.map AV.str p)),decide ((i:Int)<(↑(ppA ps).length:Int))=true]):=kr
theorem b47_1 (W:World) (ps out:List (List (List UInt8))) (p:List (List UInt8)) (s x:List UInt8) (i:Nat):sQ W {lp:=true} 97 0 [] [1,4,5,6,9,10,11] (S47 ps out s i) [bt,aE 1,oS (sL 1 (List.map AV.str p)),aE 1,oS (.str x),bf,bt,ee]=.ok ((.ret,{t:=[(1,.str s),(4,.val (Value.slice none 0 0)),(5,bA true),(6,.gs 100000 0 out.length),(9,sL 1 (ppA ps)),(10,iA (↑(ppA ps).length:Int)),(11,iA (i:Int))],h:=[(100000,.arr 22 1 (ppA out) .own)]}),[ee],[decide ((↑(List.map AV.str p).length:Int)=1)=true,(!decide (x=s))=false,(List.map AV.str p)[0]?=some (AV.str x),(ppA ps)[(i:Int).toNat]?=some (sL 1 (List.map AV.str p)),decide ((i:Int)<(↑(ppA ps).length:Int))=true]):=kr
theorem b47_2 (W:World) (ps out:List (List (List UInt8))) (p:List (List UInt8)) (s x:List UInt8) (i:Nat):sQ W {lp:=true} 97 0 [] [1,4,5,6,9,10,11] (S47 ps out s i) [bt,aE 1,oS (sL 1 (List.map AV.str p)),aE 1,oS (.str x),bf,bf,aE 1,.lg,aE 1,.lg,.lg,ee]=.ok ((.normal,{t:=[(1,.str s),(6,.gs 100002 0 (out.length+[AV.sl 1 (List.drop 1 (List.take (↑(defLen (sL 1 (List.map AV.str p))):Int).toNat (List.map AV.str p++[]))) (List.drop (↑(defLen (sL 1 (List.map AV.str p))):Int).toNat (List.map AV.str p++[]))].length)),(9,sL 1 (ppA ps)),(10,iA (↑(ppA ps).length:Int)),(11,iA (IntKind.i64.wrap ((i:Int)+1)))],h:=[(100000,.dead),(100001,.arr 22 1 [AV.sl 1 (List.drop 1 (List.take (↑(defLen (sL 1 (List.map AV.str p))):Int).toNat (List.map AV.str p++[]))) (List.drop (↑(defLen (sL 1 (List.map AV.str p))):Int).toNat (List.map AV.str p++[]))] .own),(100002,.arr 22 1 (List.take out.length (ppA out)++[AV.sl 1 (List.drop 1 (List.take (↑(defLen (sL 1 (List.map AV.str p))):Int).toNat (List.map AV.str p++[]))) (List.drop (↑(defLen (sL 1 (List.map AV.str p))):Int).toNat (List.map AV.str p++[]))]) .own)]}),[ee],[(out.length+[AV.sl 1 (List.drop 1 (List.take (↑(defLen (sL 1 (List.map AV.str p))):Int).toNat (List.map AV.str p++[]))) (List.drop (↑(defLen (sL 1 (List.map AV.str p))):Int).toNat (List.map AV.str p++[]))].length) * 24<=140737488355328,(St.own=St.own\/St.own=St.shr/\out.length=(ppA out).length)/\out.length<=(ppA out).length,1<=(↑(defLen (sL 1 (List.map AV.str p))):Int)/\(↑(defLen (sL 1 (List.map AV.str p))):Int)<=(↑(List.map AV.str p).length:Int)+0,decide ((↑(List.map AV.str p).length:Int)=1)=false,(!decide (x=s))=false,(List.map AV.str p)[0]?=some (AV.str x),(ppA ps)[(i:Int).toNat]?=some (sL 1 (List.map AV.str p)),decide ((i:Int)<(↑(ppA ps).length:Int))=true]):=kr
theorem b47_3 (W:World) (ps out:List (List (List UInt8))) (s:List UInt8) (i:Nat):sQ W {lp:=true} 97 0 [] [1,4,5,6,9,10,11] (S47 ps out s i) [bf,ee]=.ok ((.exit 0,{t:=[(1,.str s),(6,.gs 100000 0 out.length),(9,sL 1 (ppA ps)),(10,iA (↑(ppA ps).length:Int)),(11,iA (i:Int))],h:=[(100000,.arr 22 1 (ppA out) .own)]}),[ee],[decide ((i:Int)<(↑(ppA ps).length:Int))=false]):=kr
theorem b24_0 (W:World) (ps:List (List (List UInt8))) (i:Nat):sQ W {lp:=true} 60 0 [] [0,2,3,4] (S24 ps i) [bt,ee,.loopM [] [] (T24 ps i 0) (.exit 2) (S24 ps i),ee]=.ok ((.normal,{t:=[(0,sL 1 (ppA ps)),(4,iA (IntKind.i64.wrap ((i:Int)+1)))],h:=[]}),[ee],[LZ W [] 60 1 (T24 ps i 0) (.exit 2) (S24 ps i),MatchK [] [] [] {t:=[(0,sL 1 (ppA ps)),(4,iA (i:Int)),(5,iA 0)],h:=[]} (T24 ps i 0),decide ((i:Int)<(↑(ppA ps).length:Int))=true]):=kr
theorem b24_1 (W:World) (ps:List (List (List UInt8))) (i:Nat):sQ W {lp:=true} 60 0 [] [0,2,3,4] (S24 ps i) [bf,ee]=.ok ((.exit 0,{t:=[(0,sL 1 (ppA ps)),(4,iA (i:Int))],h:=[]}),[ee],[decide ((i:Int)<(↑(ppA ps).length:Int))=false]):=kr
theorem c24_0 (W:World) (ps:List (List (List UInt8))) (i:Nat):sQ W {lp:=true} 60 0 [] [0,2,3,4] (S24 ps i) [bt,ee,.loopM [] [] (T24 ps i 0) .ret (R24 i),ee]=.ok ((.ret,{t:=[(2,iA (i:Int)),(3,bA true)],h:=[]}),[ee],[LZ W [] 60 1 (T24 ps i 0) .ret (R24 i),MatchK [] [] [] {t:=[(0,sL 1 (ppA ps)),(4,iA (i:Int)),(5,iA 0)],h:=[]} (T24 ps i 0),decide ((i:Int)<(↑(ppA ps).length:Int))=true]):=kr
theorem d24_0 (W:World) (ps:List (List (List UInt8))) (p q2:List (List UInt8)) (i k:Nat) (b:Bool):sQ W {lp:=true,tl:=[78]} 60 1 [] [0,2,3,4,5] (T24 ps i k) [bt,aE 1,oS (sL 1 (List.map AV.str p)),aE 1,oS (sL 1 (List.map AV.str q2)),ee,cR (bA b) [],bt,ee]=.ok ((.ret,{t:=[(0,sL 1 (ppA ps)),(2,iA (i:Int)),(3,bA true),(4,iA (i:Int)),(5,iA (k:Int))],h:=[]}),[ee],[b=true,MZ W 78 [sL 1 (List.map AV.str p),sL 1 (List.map AV.str q2)] [] (.ret (bA b) []),(ppA ps)[(k:Int).toNat]?=some (sL 1 (List.map AV.str q2)),(ppA ps)[(i:Int).toNat]?=some (sL 1 (List.map AV.str p)),decide ((k:Int)<(i:Int))=true]):=kr
theorem d24_1 (W:World) (ps:List (List (List UInt8))) (p q2:List (List UInt8)) (i k:Nat) (b:Bool):sQ W {lp:=true,tl:=[78]} 60 1 [] [0,2,3,4,5] (T24 ps i k) [bt,aE 1,oS (sL 1 (List.map AV.str p)),aE 1,oS (sL 1 (List.map AV.str q2)),ee,cR (bA b) [],bf,ee]=.ok ((.normal,{t:=[(0,sL 1 (ppA ps)),(4,iA (i:Int)),(5,iA (IntKind.i64.wrap ((k:Int)+1)))],h:=[]}),[ee],[b=false,MZ W 78 [sL 1 (List.map AV.str p),sL 1 (List.map AV.str q2)] [] (.ret (bA b) []),(ppA ps)[(k:Int).toNat]?=some (sL 1 (List.map AV.str q2)),(ppA ps)[(i:Int).toNat]?=some (sL 1 (List.map AV.str p)),decide ((k:Int)<(i:Int))=true]):=kr
theorem d24_2 (W:World) (ps:List (List (List UInt8))) (i k:Nat):sQ W {lp:=true,tl:=[78]} 60 1 [] [0,2,3,4,5] (T24 ps i k) [bf,ee]=.ok ((.exit 2,{t:=[(0,sL 1 (ppA ps)),(4,iA (i:Int)),(5,iA (k:Int))],h:=[]}),[ee],[decide ((k:Int)<(i:Int))=false]):=kr
theorem Ha2_z1 {kp f ph σ σ'} (h:MatchK kp f ph σ σ':=by exact ⟨by rfl,(by simp only [E0,R4i,R2b,S18,S13,S16,E16,S47,E47,R47,S24,T24,R24,S45,tOK,List.map_cons,List.map_nil,and_true]<;>exact zt),(by simp only [E0,R4i,R2b,S18,S13,S16,E16,S47,E47,R47,S24,T24,R24,S45,hOK,List.map_cons,List.map_nil,and_true]<;>exact zh),(by simp only [E0,R4i,R2b,S18,S13,S16,E16,S47,E47,R47,S24,T24,R24,S45,liveT,List.map_cons,List.map_nil,and_true]<;>exact zv),(by simp only [E0,R4i,R2b,S18,S13,S16,E16,S47,E47,R47,S24,T24,R24,S45,liveH,List.map_cons,List.map_nil,and_true]<;>exact zv)⟩):MatchK kp f ph σ σ':=h
theorem Ha2_z2 {cs} (h:Holds cs:=by simp only [Holds,and_true]<;>and_intros<;>first|assumption|exact zd|exact Ha2_z1):Holds cs:=h
theorem call22h:callable Tryz.prog 57=true:=kr
theorem call47h:callable Tryz.prog 97=true:=kr
theorem call24h:callable Tryz.prog 60=true:=kr
theorem call45h:callable Tryz.prog 95=true:=kr
theorem call26h:callable Tryz.prog 72=true:=kr
section
variable (W:World)
theorem ppA_get {ps:List (List (List UInt8))} {i:Nat} {p:List (List UInt8)} (h:ps[i]?=some p):(ppA ps)[i]?=some (.sl 1 (p.map AV.str) []):=by unfold ppA;rw [List.getElem?_map,h];rfl
theorem ppA_len (ps:List (List (List UInt8))):(ppA ps).length=ps.length:=by unfold ppA;rw [List.length_map]
theorem ppA_clo:∀ ps:List (List (List UInt8)),cloL (ppA ps)=true
 | []=>rfl
 | p::ps=>by show (AV.clo (.sl 1 (p.map AV.str) []) && cloL (ppA ps))=true;rw [ppA_clo ps];rfl
theorem mem_mk {h:JH} {l:List JV}:(JV.mk h l).mem=if l.length<h.names.length then l.length else h.names.length:=rfl
theorem members22 (v:JV):Pure Tryz.prog W 57 [encV v] (iA v.mem):=by
 obtain ⟨h,l⟩:=v
 by_cases e:h.names.length<l.length
 ·have c:decide (((h.names.map AV.str).length:Int)<((encVs l).length:Int))=true:=by rw [encVs_len,List.length_map];exact decide_eq_true (by omega)
  have hM:=mut_of_sfun mixedz call22h rfl (p22_0 W h l) Ha2_z2
  rw [show (JV.mk h l).mem=(h.names.map AV.str).length by rw [List.length_map,mem_mk,if_neg (by omega)]]
  exact pure_of_mut rfl hM
 ·have c:decide (((h.names.map AV.str).length:Int)<((encVs l).length:Int))=false:=by rw [encVs_len,List.length_map];exact decide_eq_false (by omega)
  have hM:=mut_of_sfun mixedz call22h rfl (p22_1 W h l) Ha2_z2
  rw [show (JV.mk h l).mem=(encVs l).length by rw [encVs_len,mem_mk];split<;>omega]
  exact pure_of_mut rfl hM
end
end Go.Ac

namespace Go.Ac
open Go Go.Proofs
set_option maxRecDepth 10000
set_option maxHeartbeats 1000000
theorem frz2 {k:Nat} {g:GE} {h1:List (Nat×GE)} (h:hg h1 k=some g) (hf:Frzable g):∀ p ∈ [(k,g)],hg h1 p.1=some p.2/\Frzable p.2:=by
 intro p hp;simp only [List.mem_singleton] at hp;subst hp;exact ⟨h,hf⟩
theorem zhp {p:Prop} (h:p:=by and_intros<;>first|exact trivial|exact gOK_ph' rfl (by decide) rfl|exact gOK_eq rfl rfl rfl|(refine gOK_box rfl rfl rfl ?_;exact zp)|exact gOK_arr rfl rfl rfl (by assumption)):p:=h
theorem zvp {p:Prop} (h:p:=by and_intros<;>first|rfl|exact trivial|exact allN_clo zb|exact allN_cloL (by assumption)|exact allN_cloL zb):p:=h
theorem Ha3_z1 {kp f ph σ σ'} (h:MatchK kp f ph σ σ':=by exact ⟨by rfl,(by simp only [E0,R4i,R2b,S18,S13,S16,E16,S47,E47,R47,S24,T24,R24,S45,tOK,List.map_cons,List.map_nil,and_true]<;>exact zt),(by simp only [E0,R4i,R2b,S18,S13,S16,E16,S47,E47,R47,S24,T24,R24,S45,hOK,List.map_cons,List.map_nil,and_true]<;>exact zhp),(by simp only [E0,R4i,R2b,S18,S13,S16,E16,S47,E47,R47,S24,T24,R24,S45,liveT,List.map_cons,List.map_nil,and_true]<;>exact zvp),(by simp only [E0,R4i,R2b,S18,S13,S16,E16,S47,E47,R47,S24,T24,R24,S45,liveH,List.map_cons,List.map_nil,and_true]<;>exact zvp)⟩):MatchK kp f ph σ σ':=h
section
variable (W:World)
theorem restsG_at {ps:List (List (List UInt8))} {i:Nat} {p:List (List UInt8)} (hp:ps[i]?=some p) (s:List UInt8) (out:List (List (List UInt8))):restsG s out (ps.drop i)=if p.head?=some s then (if p.length=1 then ([],true) else restsG s (out++[p.tail]) (ps.drop (i+1))) else restsG s out (ps.drop (i+1)):=by
 rw [drop_get hp,restsG]
theorem rests47 (ps:List (List (List UInt8))) (s:List UInt8) (hne:∀ p ∈ ps,p ≠ []) (hl:ps.length<=2 ^ 30):Pure Tryz.prog W 97 [.sl 1 (ppA ps) [],.str s] (.tup [.sl 1 (ppA (restsV ps s).1) [],bA (restsV ps s).2]):=by
 have loop:∀ (j i:Nat) (out:List (List (List UInt8))),ps.length - i=j->i<=ps.length->out.length<=i →
  ((restsG s out (ps.drop i)).2=false/\LoopC Tryz.prog W [] (nslots Tryz.prog 97) (loopOf Tryz.prog 97 0) (S47 ps out s i) (.exit 0) (E47 (restsG s out (ps.drop i)).1))\/((restsG s out (ps.drop i)).2=true/\LoopC Tryz.prog W [] (nslots Tryz.prog 97) (loopOf Tryz.prog 97 0) (S47 ps out s i) .ret R47):=by
  intro j
  induction j with
  | zero =>
   intro i out hj hi ho
   have hcl:=ppA_clo out
   have e:decide ((i:Int)<(((ppA ps).length:Nat):Int))=false:=by rw [ppA_len];exact decide_eq_false (by omega)
   rw [List.drop_of_length_le (l:=ps) (by omega),restsG]
   dsimp only
   exact .inl ⟨rfl,loop_last (by simp) (body_of_sbodyK mixedz (b47_3 W ps out s i) Ha2_z2 [] [] Ha2_z1)⟩
  | succ j ihj =>
   intro i out hj hi ho
   have hcl:=ppA_clo out
   obtain ⟨p,hp⟩:=getOf (l:=ps) (i:=i) (by omega)
   have e:decide ((i:Int)<(((ppA ps).length:Nat):Int))=true:=by rw [ppA_len];exact decide_eq_true (by omega)
   have hget:(ppA ps)[((i:Int)).toNat]?=some (.sl 1 (p.map AV.str) []):=by rw [Int.toNat_natCast];exact ppA_get hp
   have hws:IntKind.i64.wrap ((i:Int)+1)=((i+1:Nat):Int):=wrap_succ (by omega)
   have hp0:=hne p (List.mem_of_getElem? hp)
   obtain ⟨x,q,rfl⟩:∃ x q,p=x::q:=by cases p with|nil=>exact absurd rfl hp0|cons x q=>exact ⟨x,q,rfl⟩
   have hgx:(List.map AV.str (x::q))[0]?=some (AV.str x):=rfl
   rw [restsG_at hp]
   by_cases hx:x=s
   case neg =>
    have c1:(!decide (x=s))=true:=by rw [decide_eq_false hx];rfl
    rw [if_neg (by simpa using hx)]
    have hb:=body_of_sbodyK mixedz (b47_0 W ps out (x::q) s x i) Ha2_z2 [] [] (σ3:=S47 ps out s (i+1)) Ha2_z1
    rcases ihj (i+1) out (by omega) (by omega) (by omega) with ⟨g1,g2⟩|⟨g1,g2⟩
    ·exact .inl ⟨g1,loop_next hb g2⟩
    ·exact .inr ⟨g1,loop_next hb g2⟩
   have c1:(!decide (x=s))=false:=by rw [decide_eq_true hx];rfl
   rw [if_pos (by simpa using hx)]
   by_cases h1:(x::q).length=1
   ·have c2:decide (((List.map AV.str (x::q)).length:Int)=1)=true:=by rw [List.length_map];exact decide_eq_true (by omega)
    rw [if_pos h1]
    exact .inr ⟨rfl,loop_last (by simp) (body_of_sbodyK mixedz (b47_1 W ps out (x::q) s x i) Ha2_z2 [] [] Ha2_z1)⟩
   ·have c2:decide (((List.map AV.str (x::q)).length:Int)=1)=false:=by rw [List.length_map];exact decide_eq_false (by omega)
    rw [if_neg h1,List.tail_cons]
    have hdl:defLen (AV.sl 1 (List.map AV.str (x::q)) [])=(x::q).length:=by simp [defLen]
    have e1:List.drop 1 (List.take ((defLen (AV.sl 1 (List.map AV.str (x::q)) []):Nat):Int).toNat (List.map AV.str (x::q)++[]))=q.map AV.str:=by
     rw [hdl,Int.toNat_natCast,List.append_nil,List.take_of_length_le (by simp)];rfl
    have e2:List.drop ((defLen (AV.sl 1 (List.map AV.str (x::q)) []):Nat):Int).toNat (List.map AV.str (x::q)++[])=[]:=by
     rw [hdl,Int.toNat_natCast,List.append_nil,List.drop_of_length_le (by simp)]
    have hr:(1:Int)<=((defLen (AV.sl 1 (List.map AV.str (x::q)) []):Nat):Int)/\((defLen (AV.sl 1 (List.map AV.str (x::q)) []):Nat):Int)<=((List.map AV.str (x::q)).length:Int)+0:=by
     rw [hdl,List.length_map];simp only [List.length_cons];omega
    obtain ⟨hr1,hr2⟩:=hr
    have hset:List.take out.length (ppA out)++[AV.sl 1 (q.map AV.str) []]=ppA (out++[q]):=by rw [<-ppA_len out,List.take_length];simp [ppA]
    have hcl2:=ppA_clo (out++[q])
    have hb0:=b47_2 W ps out (x::q) s x i
    rw [e1,e2] at hb0
    have hone:([AV.sl 1 (q.map AV.str) []]:List AV).length=1:=rfl
    have hout:=ppA_len out
    have hlen:(out++[q]).length=out.length+1:=by simp
    have hb:=body_of_sbodyK mixedz hb0 ⟨by simp only [List.length_cons,List.length_nil];omega,⟨.inl rfl,by omega⟩,⟨hr1,hr2⟩,c2,c1,hgx,hget,e,trivial⟩ [(100000,100002)] [] (σ3:=S47 ps (out++[q]) s (i+1)) (by
     refine ⟨by rfl,?_,?_,?_,?_⟩
     ·simp only [S47,E47,tOK,List.map_cons,List.map_nil,and_true]
      and_intros<;>exact zp
     ·simp only [S47,E47,hOK,List.map_cons,List.map_nil,and_true]
      exact gOK_arr rfl rfl hset hcl2
     ·simp only [S47,E47,liveT,List.map_cons,List.map_nil,and_true]
      exact zv
     ·simp only [S47,E47,liveH,List.map_cons,List.map_nil,and_true]
      exact allN_cloL hcl2)
    rcases ihj (i+1) (out++[q]) (by omega) (by omega) (by simp only [List.length_append,List.length_cons,List.length_nil];omega) with ⟨g1,g2⟩|⟨g1,g2⟩
    ·exact .inl ⟨g1,loop_next hb g2⟩
    ·exact .inr ⟨g1,loop_next hb g2⟩
 have hv:restsV ps s=restsG s [] ps:=rfl
 rcases loop ps.length 0 [] (by omega) (by omega) (Nat.le_refl _) with ⟨g,hlp⟩|⟨g,hlp⟩
 ·rw [List.drop_zero,<-hv] at g hlp
  rw [g]
  generalize (restsV ps s).1=out at hlp
  have hcl:=ppA_clo out
  have h:=mut_of_sfun mixedz call47h rfl (p47_0 W ps out s) ⟨Ha3_z1,hlp,Ha3_z1,trivial⟩
  exact pure_frz [(100000,.arr 22 1 (ppA out) .own)] h (frz2 rfl (ppA_clo out)) (by
   simp [clA,clL,lk,iA,bA,ppA_len];try exact List.take_of_length_le (by simp [ppA_len])) rfl
 ·rw [List.drop_zero,<-hv] at g
  have h1:=restsG_snd s ps [] g
  rw [g,hv,h1]
  exact pure_leR (.tup (.cons (.nil 1) (.cons (.refl _) .nil))) (pure_of_mut rfl (mut_of_sfun mixedz call47h rfl (q47_0 W ps s) ⟨hlp,Ha3_z1,trivial⟩))
theorem anyC_at {p q:List (List UInt8)} {l:List (List (List UInt8))} {k:Nat} (h:l[k]?=some q):anyC p (l.drop k)=(clashB p q || anyC p (l.drop (k+1))):=by rw [drop_get h];rfl
theorem cBG_at {ps:List (List (List UInt8))} {i:Nat} {p:List (List UInt8)} (h:ps[i]?=some p):cBG (ps.take i) (ps.drop i)=(anyC p (ps.take i) || cBG (ps.take (i+1)) (ps.drop (i+1))):=by rw [drop_get h,cBG,take_snoc h]
theorem clashes24 (ps:List (List (List UInt8))) (hl:ps.length<=2 ^ 30) (hpl:∀ p ∈ ps,p.length<2 ^ 62):∃ m:Int,Pure Tryz.prog W 60 [.sl 1 (ppA ps) []] (.tup [iA m,bA (cB ps)]):=by
 have inner:∀ (i:Nat) (p:List (List UInt8)),ps[i]?=some p->∀ (j k:Nat),i - k=j->k<=i →
  (anyC p ((ps.take i).drop k)=false/\LoopC Tryz.prog W [] (nslots Tryz.prog 60) (loopOf Tryz.prog 60 1) (T24 ps i k) (.exit 2) (S24 ps i))\/(anyC p ((ps.take i).drop k)=true/\LoopC Tryz.prog W [] (nslots Tryz.prog 60) (loopOf Tryz.prog 60 1) (T24 ps i k) .ret (R24 i)):=by
  intro i p hp j
  have hil:=(List.getElem?_eq_some_iff.1 hp).1
  induction j with
  | zero =>
   intro k hj hk
   have e:decide ((k:Int)<(i:Int))=false:=decide_eq_false (by omega)
   rw [List.drop_of_length_le (l:=ps.take i) (by rw [List.length_take];omega)]
   exact .inl ⟨rfl,loop_last (by simp) (body_of_sbodyK mixedz (d24_2 W ps i k) Ha2_z2 [] [] Ha2_z1)⟩
  | succ j ihj =>
   intro k hj hk
   obtain ⟨q,hq⟩:=getOf (l:=ps) (i:=k) (by omega)
   have hqt:(ps.take i)[k]?=some q:=by rw [List.getElem?_take,if_pos (by omega)];exact hq
   have e:decide ((k:Int)<(i:Int))=true:=decide_eq_true (by omega)
   have hg1:(ppA ps)[((i:Int)).toNat]?=some (.sl 1 (p.map AV.str) []):=by rw [Int.toNat_natCast];exact ppA_get hp
   have hg2:(ppA ps)[((k:Int)).toNat]?=some (.sl 1 (q.map AV.str) []):=by rw [Int.toNat_natCast];exact ppA_get hq
   have hws:IntKind.i64.wrap ((k:Int)+1)=((k+1:Nat):Int):=wrap_succ (by omega)
   have hc:=mut_of_pure (by rfl) (clash42 W p q (hpl p (List.mem_of_getElem? hp)))
   rw [anyC_at hqt]
   cases hcl:clashB p q with
   | true =>
    rw [hcl] at hc
    exact .inr ⟨rfl,loop_last (by simp) (body_of_sbodyK mixedz (d24_0 W ps p q i k true) Ha2_z2 [] [] Ha2_z1)⟩
   | false =>
    rw [hcl] at hc
    rw [Bool.false_or]
    have hb:=body_of_sbodyK mixedz (d24_1 W ps p q i k false) Ha2_z2 [] [] (σ3:=T24 ps i (k+1)) Ha2_z1
    rcases ihj (k+1) (by omega) (by omega) with ⟨g1,g2⟩|⟨g1,g2⟩
    ·exact .inl ⟨g1,loop_next hb g2⟩
    ·exact .inr ⟨g1,loop_next hb g2⟩
 have outer:∀ (j i:Nat),ps.length - i=j->i<=ps.length->(cBG (ps.take i) (ps.drop i)=false/\LoopC Tryz.prog W [] (nslots Tryz.prog 60) (loopOf Tryz.prog 60 0) (S24 ps i) (.exit 0) E0)\/(cBG (ps.take i) (ps.drop i)=true/\∃ m:Nat,LoopC Tryz.prog W [] (nslots Tryz.prog 60) (loopOf Tryz.prog 60 0) (S24 ps i) .ret (R24 m)):=by
  intro j
  induction j with
  | zero =>
   intro i hj hi
   have e:decide ((i:Int)<(((ppA ps).length:Nat):Int))=false:=by rw [ppA_len];exact decide_eq_false (by omega)
   rw [List.drop_of_length_le (l:=ps) (by omega)]
   exact .inl ⟨rfl,loop_last (by simp) (body_of_sbodyK mixedz (b24_1 W ps i) Ha2_z2 [] [] Ha2_z1)⟩
  | succ j ihj =>
   intro i hj hi
   obtain ⟨p,hp⟩:=getOf (l:=ps) (i:=i) (by omega)
   have e:decide ((i:Int)<(((ppA ps).length:Nat):Int))=true:=by rw [ppA_len];exact decide_eq_true (by omega)
   have hws:IntKind.i64.wrap ((i:Int)+1)=((i+1:Nat):Int):=wrap_succ (by omega)
   rw [cBG_at hp]
   rcases inner i p hp i 0 (by omega) (by omega) with ⟨g,hlp⟩|⟨g,hlp⟩
   ·rw [List.drop_zero] at g
    rw [g,Bool.false_or]
    have hb:=body_of_sbodyK mixedz (b24_0 W ps i) Ha2_z2 [] [] (σ3:=S24 ps (i+1)) Ha2_z1
    rcases ihj (i+1) (by omega) (by omega) with ⟨g1,g2⟩|⟨g1,m,g2⟩
    ·exact .inl ⟨g1,loop_next hb g2⟩
    ·exact .inr ⟨g1,m,loop_next hb g2⟩
   ·rw [List.drop_zero] at g
    rw [g,Bool.true_or]
    exact .inr ⟨rfl,i,loop_last (by simp) (body_of_sbodyK mixedz (c24_0 W ps i) Ha2_z2 [] [] Ha2_z1)⟩
 have hv:cB ps=cBG (ps.take 0) (ps.drop 0):=rfl
 rcases outer ps.length 0 (by omega) (by omega) with ⟨g,hlp⟩|⟨g,m,hlp⟩
 ·rw [hv,g]
  exact ⟨0,pure_of_mut rfl (mut_of_sfun mixedz call24h rfl (p24_0 W ps) Ha2_z2)⟩
 ·rw [hv,g]
  exact ⟨m,pure_of_mut rfl (mut_of_sfun mixedz call24h rfl (q24_0 W ps m) Ha2_z2)⟩
end
end Go.Ac

namespace Go.Ac
open Go Go.Proofs
set_option maxRecDepth 10000
set_option maxHeartbeats 1000000
def zV:AV:=.agg [iA 0,iA 0,.str [],.val (.slice none 0 0),.val (.slice none 0 0)]
def L30 (ps:List (List (List UInt8))) (b:Bool) (l out:List JV) (i:Nat):AS:=⟨[(1,.sl 1 (ppA ps) []),(2,bA b),(6,.gp 100001 0),(7,.gp 100002 0),(22,.sl 5 (encVs l) []),(23,iA (encVs l).length),(24,iA i)],[(100001,.box zV .own),(100002,.box (.agg [iA 5,iA 0,.str [],.val (.slice none 0 0),.gs 100003 0 out.length]) .own),(100003,.arr 25 5 (encVs out) .own)]⟩
def E30l (out:List JV):AS:=⟨[(6,.gp 100001 0),(7,.gp 100002 0)],[(100001,.box zV .own),(100002,.box (.agg [iA 5,iA 0,.str [],.val (.slice none 0 0),.gs 100003 0 out.length]) .own),(100003,.arr 25 5 (encVs out) .own)]⟩
def O30 (h:JH) (l:List JV) (ps:List (List (List UInt8))) (b:Bool) (n:Int) (ns:List (List UInt8)) (out:List JV) (i:Nat):AS:=⟨[(1,.sl 1 (ppA ps) []),(2,bA b),(3,.gp 100000 0),(6,.gp 100001 0),(10,.gp 100002 0),(60,iA n),(61,iA i)],[(100000,.box (encV (.mk h l)) .own),(100001,.box zV .own),(100002,.box (.agg [iA 6,iA 0,.str [],.gs 100003 0 ns.length,.gs 100004 0 out.length]) .own),(100003,.arr 9 1 (ns.map AV.str) .own),(100004,.arr 25 5 (encVs out) .own)]⟩
def E30o (ns:List (List UInt8)) (out:List JV):AS:=⟨[(6,.gp 100001 0),(10,.gp 100002 0)],[(100001,.box zV .own),(100002,.box (.agg [iA 6,iA 0,.str [],.gs 100003 0 ns.length,.gs 100004 0 out.length]) .own),(100003,.arr 9 1 (ns.map AV.str) .own),(100004,.arr 25 5 (encVs out) .own)]⟩
theorem p30l_0 (W:World) (h:JH) (l out:List JV) (ps:List (List (List UInt8))) (b:Bool):sF W {lp:=true,fin:=9} 76 [eV h l,.sl 1 (ppA ps) [],bA b] [] 100000 [bt,ee,.loopM [] [(100003,5)] (L30 ps b l [] 0) (.exit 1) (E30l out),ee,.fin [] [] (.agg [iA 5,iA 0,.str [],.val (Value.slice none 0 0),.gs 100003 0 out.length]) [(100003,.arr 25 5 (encVs out) .own)],ee] []=.ok (.ret (.agg [iA 5,iA 0,.str [],.val (Value.slice none 0 0),.gs 100003 0 out.length]) [(100003,.arr 25 5 (encVs out) .own)],[ee],[MatchK [] [] [] {t:=[(0,.agg [iA 5,iA 0,.str [],.val (Value.slice none 0 0),.gs 100003 0 out.length])],h:=[(100001,gB (.agg [iA 5,iA 0,.str [],.val (Value.slice none 0 0),.gs 100003 0 out.length])),(100002,gB (.agg [iA 5,iA 0,.str [],.val (Value.slice none 0 0),.gs 100003 0 out.length])),(100003,.arr 25 5 (encVs out) .own)]} {t:=[(0,.agg [iA 5,iA 0,.str [],.val (Value.slice none 0 0),.gs 100003 0 out.length])],h:=[(100003,.arr 25 5 (encVs out) .own)]},LZ W [] 76 0 (L30 ps b l [] 0) (.exit 1) (E30l out),MatchK [] [] [(100003,5)] {t:=[(1,sL 1 (ppA ps)),(2,bA b),(6,.gp 100001 0),(7,.gp 100002 0),(22,sL 5 (encVs l)),(23,iA (↑(encVs l).length:Int)),(24,iA 0)],h:=[(100000,gB (eV h l)),(100001,gB (.agg [iA 0,iA 0,.str [],.val (Value.slice none 0 0),.val (Value.slice none 0 0)])),(100002,gB (.agg [iA 5,iA 0,.str [],.val (Value.slice none 0 0),.val (Value.slice none 0 0)]))]} (L30 ps b l [] 0),decide (h.kind=5)=true]):=kr
theorem p30o_0 (W:World) (h:JH) (l out:List JV) (ps:List (List (List UInt8))) (ns:List (List UInt8)) (b:Bool) (n:Int):sF W {lp:=true,fin:=9} 76 [eV h l,.sl 1 (ppA ps) [],bA b] [] 100000 [bf,bt,ee,.loopM [] [(100003,1),(100004,5)] (O30 h l ps b n [] [] 0) (.exit 3) (E30o ns out),ee,.fin [] [] (.agg [iA 6,iA 0,.str [],.gs 100003 0 ns.length,.gs 100004 0 out.length]) [(100003,.arr 9 1 (List.map AV.str ns) .own),(100004,.arr 25 5 (encVs out) .own)],ee] []=.ok (.ret (.agg [iA 6,iA 0,.str [],.gs 100003 0 ns.length,.gs 100004 0 out.length]) [(100003,.arr 9 1 (List.map AV.str ns) .own),(100004,.arr 25 5 (encVs out) .own)],[ee],[MatchK [] [] [] {t:=[(0,.agg [iA 6,iA 0,.str [],.gs 100003 0 ns.length,.gs 100004 0 out.length])],h:=[(100001,gB (.agg [iA 6,iA 0,.str [],.gs 100003 0 ns.length,.gs 100004 0 out.length])),(100002,gB (.agg [iA 6,iA 0,.str [],.gs 100003 0 ns.length,.gs 100004 0 out.length])),(100003,.arr 9 1 (List.map AV.str ns) .own),(100004,.arr 25 5 (encVs out) .own)]} {t:=[(0,.agg [iA 6,iA 0,.str [],.gs 100003 0 ns.length,.gs 100004 0 out.length])],h:=[(100003,.arr 9 1 (List.map AV.str ns) .own),(100004,.arr 25 5 (encVs out) .own)]},LZ W [] 76 1 (O30 h l ps b n [] [] 0) (.exit 3) (E30o ns out),MatchK [] [] [(100003,1),(100004,5)] {t:=[(1,sL 1 (ppA ps)),(2,bA b),(3,.gp 100000 0),(6,.gp 100001 0),(10,.gp 100002 0),(60,iA (if (↑(encVs l).length:Int)<(↑(List.map AV.str h.names).length:Int) then (↑(encVs l).length:Int) else (↑(List.map AV.str h.names).length:Int))),(61,iA 0)],h:=[(100000,gB (eV h l)),(100001,gB (.agg [iA 0,iA 0,.str [],.val (Value.slice none 0 0),.val (Value.slice none 0 0)])),(100002,gB (.agg [iA 6,iA 0,.str [],.val (Value.slice none 0 0),.val (Value.slice none 0 0)]))]} (O30 h l ps b n [] [] 0),decide (h.kind=6)=true,decide (h.kind=5)=false]):=kr
theorem p30x_0 (W:World) (h:JH) (l:List JV) (ps:List (List (List UInt8))) (b:Bool):sF W {lp:=true} 76 [eV h l,.sl 1 (ppA ps) [],bA b] [] 100000 [bf,bf,ee] []=.ok (.ret (eV h l) [],[ee],[decide (h.kind=6)=false,decide (h.kind=5)=false]):=kr
theorem p11_1 (W:World) (h hy:JH) (l y:List JV) (ps:List (List (List UInt8))) (b:Bool):sF W {lp:=true,tl:=[76]} 56 [.ip (.agg [.sl 1 (ppA ps) [],bA b]) 0,eV h l] [] 100000 [aE 7,bf,ee,cR (eV hy y) [],ee] []=.ok (.ret (eV hy y) [],[ee],[MZ W 76 [eV h l,sL 1 (ppA ps),bA b] [] (.ret (eV hy y) []),decide ((↑(ppA ps).length:Int)=0)=false]):=kr
theorem b30l_0 (W:World) (hx hy:JH) (l k y out:List JV) (ps:List (List (List UInt8))) (b:Bool) (i:Nat):sQ W {lp:=true,tl:=[76]} 76 0 [] [1,2,6,7,22,23,24] (L30 ps b l out i) [bt,aE 1,oS (eV hx k),bt,bt,bt,bt,ee,cR (eV hy y) [],aE 1,.lg,.lg,ee]=.ok ((.normal,{t:=[(1,sL 1 (ppA ps)),(2,bA b),(6,.gp 100001 0),(7,.gp 100002 0),(22,sL 5 (encVs l)),(23,iA (↑(encVs l).length:Int)),(24,iA (IntKind.i64.wrap ((i:Int)+1)))],h:=[(100001,gB (.agg [iA 0,iA 0,.str [],.val (Value.slice none 0 0),.val (Value.slice none 0 0)])),(100002,gB (.agg [iA 5,iA 0,.str [],.val (Value.slice none 0 0),.gs 100006 0 (out.length+[eV hy y].length)])),(100003,.dead),(100004,gB (eV hx k)),(100005,.arr 25 5 [eV hy y] .own),(100006,.arr 25 5 (List.take out.length (encVs out)++[eV hy y]) .own)]}),[ee],((out.length+[eV hy y].length) * 80<=140737488355328)::((St.own=St.own\/St.own=St.shr/\out.length=(encVs out).length)/\out.length<=(encVs out).length)::MZ W 76 [eV hx k,sL 1 (ppA ps),bA b] [] (.ret (eV hy y) [])::(d4 (decide (hx.kind=6)=true) [(encVs l)[(i:Int).toNat]?=some (eV hx k),decide ((i:Int)<(↑(encVs l).length:Int))=true])):=kr
theorem b30l_1 (W:World) (hx hy:JH) (l k y out:List JV) (ps:List (List (List UInt8))) (b:Bool) (i:Nat):sQ W {lp:=true,tl:=[76]} 76 0 [] [1,2,6,7,22,23,24] (L30 ps b l out i) [bt,aE 1,oS (eV hx k),bf,bf,bf,bf,bt,bt,bt,ee,cR (eV hy y) [],aE 1,.lg,.lg,ee]=.ok ((.normal,{t:=[(1,sL 1 (ppA ps)),(2,bA b),(6,.gp 100001 0),(7,.gp 100002 0),(22,sL 5 (encVs l)),(23,iA (↑(encVs l).length:Int)),(24,iA (IntKind.i64.wrap ((i:Int)+1)))],h:=[(100001,gB (.agg [iA 0,iA 0,.str [],.val (Value.slice none 0 0),.val (Value.slice none 0 0)])),(100002,gB (.agg [iA 5,iA 0,.str [],.val (Value.slice none 0 0),.gs 100006 0 (out.length+[eV hy y].length)])),(100003,.dead),(100004,gB (eV hx k)),(100005,.arr 25 5 [eV hy y] .own),(100006,.arr 25 5 (List.take out.length (encVs out)++[eV hy y]) .own)]}),[ee],((out.length+[eV hy y].length) * 80<=140737488355328)::((St.own=St.own\/St.own=St.shr/\out.length=(encVs out).length)/\out.length<=(encVs out).length)::MZ W 76 [eV hx k,sL 1 (ppA ps),bA b] [] (.ret (eV hy y) [])::(d3 (decide (hx.kind=5)=true) (d4 (decide (hx.kind=6)=false) [(encVs l)[(i:Int).toNat]?=some (eV hx k),decide ((i:Int)<(↑(encVs l).length:Int))=true]))):=kr
theorem b30l_2 (W:World) (hx hy:JH) (l k y out:List JV) (ps:List (List (List UInt8))) (b:Bool) (i:Nat):sQ W {lp:=true,tl:=[76]} 76 0 [] [1,2,6,7,22,23,24] (L30 ps b l out i) [bt,aE 1,oS (eV hx k),bf,bf,bf,bf,bf,bf,bf,bt,ee,cR (eV hy y) [],aE 1,.lg,.lg,ee]=.ok ((.normal,{t:=[(1,sL 1 (ppA ps)),(2,bA b),(6,.gp 100001 0),(7,.gp 100002 0),(22,sL 5 (encVs l)),(23,iA (↑(encVs l).length:Int)),(24,iA (IntKind.i64.wrap ((i:Int)+1)))],h:=[(100001,gB (.agg [iA 0,iA 0,.str [],.val (Value.slice none 0 0),.val (Value.slice none 0 0)])),(100002,gB (.agg [iA 5,iA 0,.str [],.val (Value.slice none 0 0),.gs 100006 0 (out.length+[eV hy y].length)])),(100003,.dead),(100004,gB (eV hx k)),(100005,.arr 25 5 [eV hy y] .own),(100006,.arr 25 5 (List.take out.length (encVs out)++[eV hy y]) .own)]}),[ee],((out.length+[eV hy y].length) * 80<=140737488355328)::((St.own=St.own\/St.own=St.shr/\out.length=(encVs out).length)/\out.length<=(encVs out).length)::MZ W 76 [eV hx k,sL 1 (ppA ps),bA b] [] (.ret (eV hy y) [])::((!b)=true)::(d3 (decide (hx.kind=5)=false) (d4 (decide (hx.kind=6)=false) [(encVs l)[(i:Int).toNat]?=some (eV hx k),decide ((i:Int)<(↑(encVs l).length:Int))=true]))):=kr
theorem b30l_3 (W:World) (hx:JH) (l k out:List JV) (ps:List (List (List UInt8))) (b:Bool) (i:Nat):sQ W {lp:=true,tl:=[76]} 76 0 [] [1,2,6,7,22,23,24] (L30 ps b l out i) [bt,aE 1,oS (eV hx k),bf,bf,bf,bf,bf,bf,bf,bf,ee]=.ok ((.normal,{t:=[(1,sL 1 (ppA ps)),(2,bA b),(6,.gp 100001 0),(7,.gp 100002 0),(22,sL 5 (encVs l)),(23,iA (↑(encVs l).length:Int)),(24,iA (IntKind.i64.wrap ((i:Int)+1)))],h:=[(100001,gB (.agg [iA 0,iA 0,.str [],.val (Value.slice none 0 0),.val (Value.slice none 0 0)])),(100002,gB (.agg [iA 5,iA 0,.str [],.val (Value.slice none 0 0),.gs 100003 0 out.length])),(100003,.arr 25 5 (encVs out) .own),(100004,gB (eV hx k))]}),[ee],((!b)=false)::(d3 (decide (hx.kind=5)=false) (d4 (decide (hx.kind=6)=false) [(encVs l)[(i:Int).toNat]?=some (eV hx k),decide ((i:Int)<(↑(encVs l).length:Int))=true]))):=kr
theorem b30l_4 (W:World) (l out:List JV) (ps:List (List (List UInt8))) (b:Bool) (i:Nat):sQ W {lp:=true,tl:=[76]} 76 0 [] [1,2,6,7,22,23,24] (L30 ps b l out i) [bf,ee]=.ok ((.exit 1,{t:=[(1,sL 1 (ppA ps)),(2,bA b),(6,.gp 100001 0),(7,.gp 100002 0),(22,sL 5 (encVs l)),(23,iA (↑(encVs l).length:Int)),(24,iA (i:Int))],h:=[(100001,gB (.agg [iA 0,iA 0,.str [],.val (Value.slice none 0 0),.val (Value.slice none 0 0)])),(100002,gB (.agg [iA 5,iA 0,.str [],.val (Value.slice none 0 0),.gs 100003 0 out.length])),(100003,.arr 25 5 (encVs out) .own)]}),[ee],[decide ((i:Int)<(↑(encVs l).length:Int))=false]):=kr
theorem b30o_tte6_0 (W:World) (h hx:JH) (l k out:List JV) (ps:List (List (List UInt8))) (ns:List (List UInt8)) (n:Int) (i:Nat) (s:List UInt8):sQ W {lp:=true,tl:=[76,97]} 76 1 [] [1,2,3,6,10,60,61] (O30 h l ps true n ns out i) [bt,aE 1,oS (eV hx k),aE 1,oS (.str s),ee,cR (.tup [sL 1 (ppA []),bA true]) [],bt,bt,bt,bt,aE 5,oS (.str s),aE 1,.lg,.lg,aE 1,.lg,.lg,ee]=.ok ((.normal,{t:=[(1,sL 1 (ppA ps)),(2,bA true),(3,.gp 100000 0),(6,.gp 100001 0),(10,.gp 100002 0),(60,iA n),(61,iA (IntKind.i64.wrap ((i:Int)+1)))],h:=[(100000,gB (eV h l)),(100001,gB (.agg [iA 0,iA 0,.str [],.val (Value.slice none 0 0),.val (Value.slice none 0 0)])),(100002,gB (.agg [iA 6,iA 0,.str [],.gs 100007 0 (ns.length+[AV.str s].length),.gs 100009 0 (out.length+[eV hx k].length)])),(100003,.dead),(100004,.dead),(100005,gB (eV hx k)),(100006,.arr 9 1 [.str s] .own),(100007,.arr 9 1 (List.take ns.length (List.map AV.str ns)++[AV.str s]) .own),(100008,.arr 25 5 [eV hx k] .own),(100009,.arr 25 5 (List.take out.length (encVs out)++[eV hx k]) .own)]}),[ee],((out.length+[eV hx k].length) * 80<=140737488355328)::((St.own=St.own\/St.own=St.shr/\out.length=(encVs out).length)/\out.length<=(encVs out).length)::((ns.length+[AV.str s].length) * 16<=140737488355328)::((St.own=St.own\/St.own=St.shr/\ns.length=(List.map AV.str ns).length)/\ns.length<=(List.map AV.str ns).length)::((List.map AV.str h.names)[(i:Int).toNat]?=some (AV.str s))::(d4 (decide (hx.kind=6)=true) [MZ W 97 [sL 1 (ppA ps),.str s] [] (.ret (.tup [sL 1 [],bA true]) []),(List.map AV.str h.names)[(i:Int).toNat]?=some (AV.str s),(encVs l)[(i:Int).toNat]?=some (eV hx k),decide ((i:Int)<n)=true])):=kr
theorem b30o_tte7_0 (W:World) (h hx:JH) (l k out:List JV) (ps:List (List (List UInt8))) (ns:List (List UInt8)) (n:Int) (i:Nat) (s:List UInt8):sQ W {lp:=true,tl:=[76,97]} 76 1 [] [1,2,3,6,10,60,61] (O30 h l ps true n ns out i) [bt,aE 1,oS (eV hx k),aE 1,oS (.str s),ee,cR (.tup [sL 1 (ppA []),bA true]) [],bf,bf,bf,bf,aE 5,oS (.str s),aE 1,.lg,.lg,aE 1,.lg,.lg,ee]=.ok ((.normal,{t:=[(1,sL 1 (ppA ps)),(2,bA true),(3,.gp 100000 0),(6,.gp 100001 0),(10,.gp 100002 0),(60,iA n),(61,iA (IntKind.i64.wrap ((i:Int)+1)))],h:=[(100000,gB (eV h l)),(100001,gB (.agg [iA 0,iA 0,.str [],.val (Value.slice none 0 0),.val (Value.slice none 0 0)])),(100002,gB (.agg [iA 6,iA 0,.str [],.gs 100007 0 (ns.length+[AV.str s].length),.gs 100009 0 (out.length+[eV hx k].length)])),(100003,.dead),(100004,.dead),(100005,gB (eV hx k)),(100006,.arr 9 1 [.str s] .own),(100007,.arr 9 1 (List.take ns.length (List.map AV.str ns)++[AV.str s]) .own),(100008,.arr 25 5 [eV hx k] .own),(100009,.arr 25 5 (List.take out.length (encVs out)++[eV hx k]) .own)]}),[ee],((out.length+[eV hx k].length) * 80<=140737488355328)::((St.own=St.own\/St.own=St.shr/\out.length=(encVs out).length)/\out.length<=(encVs out).length)::((ns.length+[AV.str s].length) * 16<=140737488355328)::((St.own=St.own\/St.own=St.shr/\ns.length=(List.map AV.str ns).length)/\ns.length<=(List.map AV.str ns).length)::((List.map AV.str h.names)[(i:Int).toNat]?=some (AV.str s))::(d4 (decide (hx.kind=6)=false) [MZ W 97 [sL 1 (ppA ps),.str s] [] (.ret (.tup [sL 1 [],bA true]) []),(List.map AV.str h.names)[(i:Int).toNat]?=some (AV.str s),(encVs l)[(i:Int).toNat]?=some (eV hx k),decide ((i:Int)<n)=true])):=kr
theorem b30o_tte7_1 (W:World) (h:JH) (l out:List JV) (ps:List (List (List UInt8))) (ns:List (List UInt8)) (n:Int) (i:Nat):sQ W {lp:=true,tl:=[76,97]} 76 1 [] [1,2,3,6,10,60,61] (O30 h l ps true n ns out i) [bf,ee]=.ok ((.exit 3,{t:=[(1,sL 1 (ppA ps)),(2,bA true),(3,.gp 100000 0),(6,.gp 100001 0),(10,.gp 100002 0),(60,iA n),(61,iA (i:Int))],h:=[(100000,gB (eV h l)),(100001,gB (.agg [iA 0,iA 0,.str [],.val (Value.slice none 0 0),.val (Value.slice none 0 0)])),(100002,gB (.agg [iA 6,iA 0,.str [],.gs 100003 0 ns.length,.gs 100004 0 out.length])),(100003,.arr 9 1 (List.map AV.str ns) .own),(100004,.arr 25 5 (encVs out) .own)]}),[ee],[decide ((i:Int)<n)=false]):=kr
theorem b30o_tfe6_0 (W:World) (h hx:JH) (l k out:List JV) (ps:List (List (List UInt8))) (ns:List (List UInt8)) (n:Int) (i:Nat) (s:List UInt8):sQ W {lp:=true,tl:=[76,97]} 76 1 [] [1,2,3,6,10,60,61] (O30 h l ps true n ns out i) [bt,aE 1,oS (eV hx k),aE 1,oS (.str s),ee,cR (.tup [sL 1 (ppA []),bA false]) [],bt,bt,bt,bt,ee]=.ok ((.normal,{t:=[(1,sL 1 (ppA ps)),(2,bA true),(3,.gp 100000 0),(6,.gp 100001 0),(10,.gp 100002 0),(60,iA n),(61,iA (IntKind.i64.wrap ((i:Int)+1)))],h:=[(100000,gB (eV h l)),(100001,gB (.agg [iA 0,iA 0,.str [],.val (Value.slice none 0 0),.val (Value.slice none 0 0)])),(100002,gB (.agg [iA 6,iA 0,.str [],.gs 100003 0 ns.length,.gs 100004 0 out.length])),(100003,.arr 9 1 (List.map AV.str ns) .own),(100004,.arr 25 5 (encVs out) .own),(100005,gB (eV hx k))]}),[aE 9999978],d4 (decide (hx.kind=6)=true) [MZ W 97 [sL 1 (ppA ps),.str s] [] (.ret (.tup [sL 1 [],bA false]) []),(List.map AV.str h.names)[(i:Int).toNat]?=some (AV.str s),(encVs l)[(i:Int).toNat]?=some (eV hx k),decide ((i:Int)<n)=true]):=kr
theorem b30o_tfe7_0 (W:World) (h hx:JH) (l k out:List JV) (ps:List (List (List UInt8))) (ns:List (List UInt8)) (n:Int) (i:Nat) (s:List UInt8):sQ W {lp:=true,tl:=[76,97]} 76 1 [] [1,2,3,6,10,60,61] (O30 h l ps true n ns out i) [bt,aE 1,oS (eV hx k),aE 1,oS (.str s),ee,cR (.tup [sL 1 (ppA []),bA false]) [],bf,bf,bf,bf,ee]=.ok ((.normal,{t:=[(1,sL 1 (ppA ps)),(2,bA true),(3,.gp 100000 0),(6,.gp 100001 0),(10,.gp 100002 0),(60,iA n),(61,iA (IntKind.i64.wrap ((i:Int)+1)))],h:=[(100000,gB (eV h l)),(100001,gB (.agg [iA 0,iA 0,.str [],.val (Value.slice none 0 0),.val (Value.slice none 0 0)])),(100002,gB (.agg [iA 6,iA 0,.str [],.gs 100003 0 ns.length,.gs 100004 0 out.length])),(100003,.arr 9 1 (List.map AV.str ns) .own),(100004,.arr 25 5 (encVs out) .own),(100005,gB (eV hx k))]}),[aE 9999978],d4 (decide (hx.kind=6)=false) [MZ W 97 [sL 1 (ppA ps),.str s] [] (.ret (.tup [sL 1 [],bA false]) []),(List.map AV.str h.names)[(i:Int).toNat]?=some (AV.str s),(encVs l)[(i:Int).toNat]?=some (eV hx k),decide ((i:Int)<n)=true]):=kr
theorem b30o_tfn5_1 (W:World) (h hx hy:JH) (l k y out:List JV) (ps rs:List (List (List UInt8))) (ns:List (List UInt8)) (n:Int) (i:Nat) (s:List UInt8) (r0:List (List UInt8)):sQ W {lp:=true,tl:=[76,97]} 76 1 [] [1,2,3,6,10,60,61] (O30 h l ps true n ns out i) [bt,aE 1,oS (eV hx k),aE 1,oS (.str s),ee,cR (.tup [sL 1 (ppA (r0::rs)),bA false]) [],bf,bf,bf,bf,aE 20,bf,ee,cR (eV hy y) [],aE 1,oS (.str s),aE 1,.lg,.lg,aE 1,.lg,.lg,ee]=.ok ((.normal,{t:=[(1,sL 1 (ppA ps)),(2,bA true),(3,.gp 100000 0),(6,.gp 100001 0),(10,.gp 100002 0),(60,iA n),(61,iA (IntKind.i64.wrap ((i:Int)+1)))],h:=[(100000,gB (eV h l)),(100001,gB (.agg [iA 0,iA 0,.str [],.val (Value.slice none 0 0),.val (Value.slice none 0 0)])),(100002,gB (.agg [iA 6,iA 0,.str [],.gs 100007 0 (ns.length+[AV.str s].length),.gs 100009 0 (out.length+[eV hy y].length)])),(100003,.dead),(100004,.dead),(100005,gB (eV hy y)),(100006,.arr 9 1 [.str s] .own),(100007,.arr 9 1 (List.take ns.length (List.map AV.str ns)++[AV.str s]) .own),(100008,.arr 25 5 [eV hy y] .own),(100009,.arr 25 5 (List.take out.length (encVs out)++[eV hy y]) .own)]}),[ee],((out.length+[eV hy y].length) * 80<=140737488355328)::((St.own=St.own\/St.own=St.shr/\out.length=(encVs out).length)/\out.length<=(encVs out).length)::((ns.length+[AV.str s].length) * 16<=140737488355328)::((St.own=St.own\/St.own=St.shr/\ns.length=(List.map AV.str ns).length)/\ns.length<=(List.map AV.str ns).length)::((List.map AV.str h.names)[(i:Int).toNat]?=some (AV.str s))::MZ W 76 [eV hx k,sL 1 (sL 1 (List.map AV.str r0)::ppA rs),bA true] [] (.ret (eV hy y) [])::((!decide (hx.kind=5))=false)::(d4 (decide (hx.kind=6)=false) [MZ W 97 [sL 1 (ppA ps),.str s] [] (.ret (.tup [sL 1 (sL 1 (List.map AV.str r0)::ppA rs),bA false]) []),(List.map AV.str h.names)[(i:Int).toNat]?=some (AV.str s),(encVs l)[(i:Int).toNat]?=some (eV hx k),decide ((i:Int)<n)=true])):=kr
theorem b30o_tfn6_0 (W:World) (h hx hy:JH) (l k y out:List JV) (ps rs:List (List (List UInt8))) (ns:List (List UInt8)) (n:Int) (i:Nat) (s:List UInt8) (r0:List (List UInt8)):sQ W {lp:=true,tl:=[76,97]} 76 1 [] [1,2,3,6,10,60,61] (O30 h l ps true n ns out i) [bt,aE 1,oS (eV hx k),aE 1,oS (.str s),ee,cR (.tup [sL 1 (ppA (r0::rs)),bA false]) [],bt,bt,bt,bt,ee,cR (eV hy y) [],aE 1,oS (.str s),aE 1,.lg,.lg,aE 1,.lg,.lg,ee]=.ok ((.normal,{t:=[(1,sL 1 (ppA ps)),(2,bA true),(3,.gp 100000 0),(6,.gp 100001 0),(10,.gp 100002 0),(60,iA n),(61,iA (IntKind.i64.wrap ((i:Int)+1)))],h:=[(100000,gB (eV h l)),(100001,gB (.agg [iA 0,iA 0,.str [],.val (Value.slice none 0 0),.val (Value.slice none 0 0)])),(100002,gB (.agg [iA 6,iA 0,.str [],.gs 100007 0 (ns.length+[AV.str s].length),.gs 100009 0 (out.length+[eV hy y].length)])),(100003,.dead),(100004,.dead),(100005,gB (eV hy y)),(100006,.arr 9 1 [.str s] .own),(100007,.arr 9 1 (List.take ns.length (List.map AV.str ns)++[AV.str s]) .own),(100008,.arr 25 5 [eV hy y] .own),(100009,.arr 25 5 (List.take out.length (encVs out)++[eV hy y]) .own)]}),[ee],((out.length+[eV hy y].length) * 80<=140737488355328)::((St.own=St.own\/St.own=St.shr/\out.length=(encVs out).length)/\out.length<=(encVs out).length)::((ns.length+[AV.str s].length) * 16<=140737488355328)::((St.own=St.own\/St.own=St.shr/\ns.length=(List.map AV.str ns).length)/\ns.length<=(List.map AV.str ns).length)::((List.map AV.str h.names)[(i:Int).toNat]?=some (AV.str s))::MZ W 76 [eV hx k,sL 1 (sL 1 (List.map AV.str r0)::ppA rs),bA true] [] (.ret (eV hy y) [])::(d4 (decide (hx.kind=6)=true) [MZ W 97 [sL 1 (ppA ps),.str s] [] (.ret (.tup [sL 1 (sL 1 (List.map AV.str r0)::ppA rs),bA false]) []),(List.map AV.str h.names)[(i:Int).toNat]?=some (AV.str s),(encVs l)[(i:Int).toNat]?=some (eV hx k),decide ((i:Int)<n)=true])):=kr
theorem b30o_tfn7_0 (W:World) (h hx:JH) (l k out:List JV) (ps rs:List (List (List UInt8))) (ns:List (List UInt8)) (n:Int) (i:Nat) (s:List UInt8) (r0:List (List UInt8)):sQ W {lp:=true,tl:=[76,97]} 76 1 [] [1,2,3,6,10,60,61] (O30 h l ps true n ns out i) [bt,aE 1,oS (eV hx k),aE 1,oS (.str s),ee,cR (.tup [sL 1 (ppA (r0::rs)),bA false]) [],bf,bf,bf,bf,aE 20,bt,bt,ee]=.ok ((.normal,{t:=[(1,sL 1 (ppA ps)),(2,bA true),(3,.gp 100000 0),(6,.gp 100001 0),(10,.gp 100002 0),(60,iA n),(61,iA (IntKind.i64.wrap ((i:Int)+1)))],h:=[(100000,gB (eV h l)),(100001,gB (.agg [iA 0,iA 0,.str [],.val (Value.slice none 0 0),.val (Value.slice none 0 0)])),(100002,gB (.agg [iA 6,iA 0,.str [],.gs 100003 0 ns.length,.gs 100004 0 out.length])),(100003,.arr 9 1 (List.map AV.str ns) .own),(100004,.arr 25 5 (encVs out) .own),(100005,gB (eV hx k))]}),[ee],d2 ((!decide (hx.kind=5))=true) (d4 (decide (hx.kind=6)=false) [MZ W 97 [sL 1 (ppA ps),.str s] [] (.ret (.tup [sL 1 (sL 1 (List.map AV.str r0)::ppA rs),bA false]) []),(List.map AV.str h.names)[(i:Int).toNat]?=some (AV.str s),(encVs l)[(i:Int).toNat]?=some (eV hx k),decide ((i:Int)<n)=true])):=kr
theorem b30o_fte6_0 (W:World) (h hx:JH) (l k out:List JV) (ps:List (List (List UInt8))) (ns:List (List UInt8)) (n:Int) (i:Nat) (s:List UInt8):sQ W {lp:=true,tl:=[76,97]} 76 1 [] [1,2,3,6,10,60,61] (O30 h l ps false n ns out i) [bt,aE 1,oS (eV hx k),aE 1,oS (.str s),ee,cR (.tup [sL 1 (ppA []),bA true]) [],bt,bt,bt,bt,ee]=.ok ((.normal,{t:=[(1,sL 1 (ppA ps)),(2,bA false),(3,.gp 100000 0),(6,.gp 100001 0),(10,.gp 100002 0),(60,iA n),(61,iA (IntKind.i64.wrap ((i:Int)+1)))],h:=[(100000,gB (eV h l)),(100001,gB (.agg [iA 0,iA 0,.str [],.val (Value.slice none 0 0),.val (Value.slice none 0 0)])),(100002,gB (.agg [iA 6,iA 0,.str [],.gs 100003 0 ns.length,.gs 100004 0 out.length])),(100003,.arr 9 1 (List.map AV.str ns) .own),(100004,.arr 25 5 (encVs out) .own),(100005,gB (eV hx k))]}),[aE 9999979],d4 (decide (hx.kind=6)=true) [MZ W 97 [sL 1 (ppA ps),.str s] [] (.ret (.tup [sL 1 [],bA true]) []),(List.map AV.str h.names)[(i:Int).toNat]?=some (AV.str s),(encVs l)[(i:Int).toNat]?=some (eV hx k),decide ((i:Int)<n)=true]):=kr
theorem b30o_fte7_0 (W:World) (h hx:JH) (l k out:List JV) (ps:List (List (List UInt8))) (ns:List (List UInt8)) (n:Int) (i:Nat) (s:List UInt8):sQ W {lp:=true,tl:=[76,97]} 76 1 [] [1,2,3,6,10,60,61] (O30 h l ps false n ns out i) [bt,aE 1,oS (eV hx k),aE 1,oS (.str s),ee,cR (.tup [sL 1 (ppA []),bA true]) [],bf,bf,bf,bf,ee]=.ok ((.normal,{t:=[(1,sL 1 (ppA ps)),(2,bA false),(3,.gp 100000 0),(6,.gp 100001 0),(10,.gp 100002 0),(60,iA n),(61,iA (IntKind.i64.wrap ((i:Int)+1)))],h:=[(100000,gB (eV h l)),(100001,gB (.agg [iA 0,iA 0,.str [],.val (Value.slice none 0 0),.val (Value.slice none 0 0)])),(100002,gB (.agg [iA 6,iA 0,.str [],.gs 100003 0 ns.length,.gs 100004 0 out.length])),(100003,.arr 9 1 (List.map AV.str ns) .own),(100004,.arr 25 5 (encVs out) .own),(100005,gB (eV hx k))]}),[aE 9999979],d4 (decide (hx.kind=6)=false) [MZ W 97 [sL 1 (ppA ps),.str s] [] (.ret (.tup [sL 1 [],bA true]) []),(List.map AV.str h.names)[(i:Int).toNat]?=some (AV.str s),(encVs l)[(i:Int).toNat]?=some (eV hx k),decide ((i:Int)<n)=true]):=kr
theorem b30o_fte7_1 (W:World) (h:JH) (l out:List JV) (ps:List (List (List UInt8))) (ns:List (List UInt8)) (n:Int) (i:Nat):sQ W {lp:=true,tl:=[76,97]} 76 1 [] [1,2,3,6,10,60,61] (O30 h l ps false n ns out i) [bf,ee]=.ok ((.exit 3,{t:=[(1,sL 1 (ppA ps)),(2,bA false),(3,.gp 100000 0),(6,.gp 100001 0),(10,.gp 100002 0),(60,iA n),(61,iA (i:Int))],h:=[(100000,gB (eV h l)),(100001,gB (.agg [iA 0,iA 0,.str [],.val (Value.slice none 0 0),.val (Value.slice none 0 0)])),(100002,gB (.agg [iA 6,iA 0,.str [],.gs 100003 0 ns.length,.gs 100004 0 out.length])),(100003,.arr 9 1 (List.map AV.str ns) .own),(100004,.arr 25 5 (encVs out) .own)]}),[ee],[decide ((i:Int)<n)=false]):=kr
theorem b30o_ffe6_0 (W:World) (h hx:JH) (l k out:List JV) (ps:List (List (List UInt8))) (ns:List (List UInt8)) (n:Int) (i:Nat) (s:List UInt8):sQ W {lp:=true,tl:=[76,97]} 76 1 [] [1,2,3,6,10,60,61] (O30 h l ps false n ns out i) [bt,aE 1,oS (eV hx k),aE 1,oS (.str s),ee,cR (.tup [sL 1 (ppA []),bA false]) [],bt,bt,bt,bt,aE 12,oS (.str s),aE 1,.lg,.lg,aE 1,.lg,.lg,ee]=.ok ((.normal,{t:=[(1,sL 1 (ppA ps)),(2,bA false),(3,.gp 100000 0),(6,.gp 100001 0),(10,.gp 100002 0),(60,iA n),(61,iA (IntKind.i64.wrap ((i:Int)+1)))],h:=[(100000,gB (eV h l)),(100001,gB (.agg [iA 0,iA 0,.str [],.val (Value.slice none 0 0),.val (Value.slice none 0 0)])),(100002,gB (.agg [iA 6,iA 0,.str [],.gs 100007 0 (ns.length+[AV.str s].length),.gs 100009 0 (out.length+[eV hx k].length)])),(100003,.dead),(100004,.dead),(100005,gB (eV hx k)),(100006,.arr 9 1 [.str s] .own),(100007,.arr 9 1 (List.take ns.length (List.map AV.str ns)++[AV.str s]) .own),(100008,.arr 25 5 [eV hx k] .own),(100009,.arr 25 5 (List.take out.length (encVs out)++[eV hx k]) .own)]}),[ee],((out.length+[eV hx k].length) * 80<=140737488355328)::((St.own=St.own\/St.own=St.shr/\out.length=(encVs out).length)/\out.length<=(encVs out).length)::((ns.length+[AV.str s].length) * 16<=140737488355328)::((St.own=St.own\/St.own=St.shr/\ns.length=(List.map AV.str ns).length)/\ns.length<=(List.map AV.str ns).length)::((List.map AV.str h.names)[(i:Int).toNat]?=some (AV.str s))::(d4 (decide (hx.kind=6)=true) [MZ W 97 [sL 1 (ppA ps),.str s] [] (.ret (.tup [sL 1 [],bA false]) []),(List.map AV.str h.names)[(i:Int).toNat]?=some (AV.str s),(encVs l)[(i:Int).toNat]?=some (eV hx k),decide ((i:Int)<n)=true])):=kr
theorem b30o_ffe7_0 (W:World) (h hx:JH) (l k out:List JV) (ps:List (List (List UInt8))) (ns:List (List UInt8)) (n:Int) (i:Nat) (s:List UInt8):sQ W {lp:=true,tl:=[76,97]} 76 1 [] [1,2,3,6,10,60,61] (O30 h l ps false n ns out i) [bt,aE 1,oS (eV hx k),aE 1,oS (.str s),ee,cR (.tup [sL 1 (ppA []),bA false]) [],bf,bf,bf,bf,aE 12,oS (.str s),aE 1,.lg,.lg,aE 1,.lg,.lg,ee]=.ok ((.normal,{t:=[(1,sL 1 (ppA ps)),(2,bA false),(3,.gp 100000 0),(6,.gp 100001 0),(10,.gp 100002 0),(60,iA n),(61,iA (IntKind.i64.wrap ((i:Int)+1)))],h:=[(100000,gB (eV h l)),(100001,gB (.agg [iA 0,iA 0,.str [],.val (Value.slice none 0 0),.val (Value.slice none 0 0)])),(100002,gB (.agg [iA 6,iA 0,.str [],.gs 100007 0 (ns.length+[AV.str s].length),.gs 100009 0 (out.length+[eV hx k].length)])),(100003,.dead),(100004,.dead),(100005,gB (eV hx k)),(100006,.arr 9 1 [.str s] .own),(100007,.arr 9 1 (List.take ns.length (List.map AV.str ns)++[AV.str s]) .own),(100008,.arr 25 5 [eV hx k] .own),(100009,.arr 25 5 (List.take out.length (encVs out)++[eV hx k]) .own)]}),[ee],((out.length+[eV hx k].length) * 80<=140737488355328)::((St.own=St.own\/St.own=St.shr/\out.length=(encVs out).length)/\out.length<=(encVs out).length)::((ns.length+[AV.str s].length) * 16<=140737488355328)::((St.own=St.own\/St.own=St.shr/\ns.length=(List.map AV.str ns).length)/\ns.length<=(List.map AV.str ns).length)::((List.map AV.str h.names)[(i:Int).toNat]?=some (AV.str s))::(d4 (decide (hx.kind=6)=false) [MZ W 97 [sL 1 (ppA ps),.str s] [] (.ret (.tup [sL 1 [],bA false]) []),(List.map AV.str h.names)[(i:Int).toNat]?=some (AV.str s),(encVs l)[(i:Int).toNat]?=some (eV hx k),decide ((i:Int)<n)=true])):=kr
theorem b30o_ffn5_0 (W:World) (h hx hy:JH) (l k y out:List JV) (ps rs:List (List (List UInt8))) (ns:List (List UInt8)) (n:Int) (i:Nat) (s:List UInt8) (r0:List (List UInt8)):sQ W {lp:=true,tl:=[76,97]} 76 1 [] [1,2,3,6,10,60,61] (O30 h l ps false n ns out i) [bt,aE 1,oS (eV hx k),aE 1,oS (.str s),ee,cR (.tup [sL 1 (ppA (r0::rs)),bA false]) [],bf,bf,bf,bf,ee,cR (eV hy y) [],aE 1,oS (.str s),aE 1,.lg,.lg,aE 1,.lg,.lg,ee]=.ok ((.normal,{t:=[(1,sL 1 (ppA ps)),(2,bA false),(3,.gp 100000 0),(6,.gp 100001 0),(10,.gp 100002 0),(60,iA n),(61,iA (IntKind.i64.wrap ((i:Int)+1)))],h:=[(100000,gB (eV h l)),(100001,gB (.agg [iA 0,iA 0,.str [],.val (Value.slice none 0 0),.val (Value.slice none 0 0)])),(100002,gB (.agg [iA 6,iA 0,.str [],.gs 100007 0 (ns.length+[AV.str s].length),.gs 100009 0 (out.length+[eV hy y].length)])),(100003,.dead),(100004,.dead),(100005,gB (eV hy y)),(100006,.arr 9 1 [.str s] .own),(100007,.arr 9 1 (List.take ns.length (List.map AV.str ns)++[AV.str s]) .own),(100008,.arr 25 5 [eV hy y] .own),(100009,.arr 25 5 (List.take out.length (encVs out)++[eV hy y]) .own)]}),[ee],((out.length+[eV hy y].length) * 80<=140737488355328)::((St.own=St.own\/St.own=St.shr/\out.length=(encVs out).length)/\out.length<=(encVs out).length)::((ns.length+[AV.str s].length) * 16<=140737488355328)::((St.own=St.own\/St.own=St.shr/\ns.length=(List.map AV.str ns).length)/\ns.length<=(List.map AV.str ns).length)::((List.map AV.str h.names)[(i:Int).toNat]?=some (AV.str s))::MZ W 76 [eV hx k,sL 1 (sL 1 (List.map AV.str r0)::ppA rs),bA false] [] (.ret (eV hy y) [])::(d4 (decide (hx.kind=6)=false) [MZ W 97 [sL 1 (ppA ps),.str s] [] (.ret (.tup [sL 1 (sL 1 (List.map AV.str r0)::ppA rs),bA false]) []),(List.map AV.str h.names)[(i:Int).toNat]?=some (AV.str s),(encVs l)[(i:Int).toNat]?=some (eV hx k),decide ((i:Int)<n)=true])):=kr
theorem b30o_ffn6_0 (W:World) (h hx hy:JH) (l k y out:List JV) (ps rs:List (List (List UInt8))) (ns:List (List UInt8)) (n:Int) (i:Nat) (s:List UInt8) (r0:List (List UInt8)):sQ W {lp:=true,tl:=[76,97]} 76 1 [] [1,2,3,6,10,60,61] (O30 h l ps false n ns out i) [bt,aE 1,oS (eV hx k),aE 1,oS (.str s),ee,cR (.tup [sL 1 (ppA (r0::rs)),bA false]) [],bt,bt,bt,bt,ee,cR (eV hy y) [],aE 1,oS (.str s),aE 1,.lg,.lg,aE 1,.lg,.lg,ee]=.ok ((.normal,{t:=[(1,sL 1 (ppA ps)),(2,bA false),(3,.gp 100000 0),(6,.gp 100001 0),(10,.gp 100002 0),(60,iA n),(61,iA (IntKind.i64.wrap ((i:Int)+1)))],h:=[(100000,gB (eV h l)),(100001,gB (.agg [iA 0,iA 0,.str [],.val (Value.slice none 0 0),.val (Value.slice none 0 0)])),(100002,gB (.agg [iA 6,iA 0,.str [],.gs 100007 0 (ns.length+[AV.str s].length),.gs 100009 0 (out.length+[eV hy y].length)])),(100003,.dead),(100004,.dead),(100005,gB (eV hy y)),(100006,.arr 9 1 [.str s] .own),(100007,.arr 9 1 (List.take ns.length (List.map AV.str ns)++[AV.str s]) .own),(100008,.arr 25 5 [eV hy y] .own),(100009,.arr 25 5 (List.take out.length (encVs out)++[eV hy y]) .own)]}),[ee],((out.length+[eV hy y].length) * 80<=140737488355328)::((St.own=St.own\/St.own=St.shr/\out.length=(encVs out).length)/\out.length<=(encVs out).length)::((ns.length+[AV.str s].length) * 16<=140737488355328)::((St.own=St.own\/St.own=St.shr/\ns.length=(List.map AV.str ns).length)/\ns.length<=(List.map AV.str ns).length)::((List.map AV.str h.names)[(i:Int).toNat]?=some (AV.str s))::MZ W 76 [eV hx k,sL 1 (sL 1 (List.map AV.str r0)::ppA rs),bA false] [] (.ret (eV hy y) [])::(d4 (decide (hx.kind=6)=true) [MZ W 97 [sL 1 (ppA ps),.str s] [] (.ret (.tup [sL 1 (sL 1 (List.map AV.str r0)::ppA rs),bA false]) []),(List.map AV.str h.names)[(i:Int).toNat]?=some (AV.str s),(encVs l)[(i:Int).toNat]?=some (eV hx k),decide ((i:Int)<n)=true])):=kr
theorem b30o_ffn7_0 (W:World) (h hx hy:JH) (l k y out:List JV) (ps rs:List (List (List UInt8))) (ns:List (List UInt8)) (n:Int) (i:Nat) (s:List UInt8) (r0:List (List UInt8)):sQ W {lp:=true,tl:=[76,97]} 76 1 [] [1,2,3,6,10,60,61] (O30 h l ps false n ns out i) [bt,aE 1,oS (eV hx k),aE 1,oS (.str s),ee,cR (.tup [sL 1 (ppA (r0::rs)),bA false]) [],bf,bf,bf,bf,ee,cR (eV hy y) [],aE 1,oS (.str s),aE 1,.lg,.lg,aE 1,.lg,.lg,ee]=.ok ((.normal,{t:=[(1,sL 1 (ppA ps)),(2,bA false),(3,.gp 100000 0),(6,.gp 100001 0),(10,.gp 100002 0),(60,iA n),(61,iA (IntKind.i64.wrap ((i:Int)+1)))],h:=[(100000,gB (eV h l)),(100001,gB (.agg [iA 0,iA 0,.str [],.val (Value.slice none 0 0),.val (Value.slice none 0 0)])),(100002,gB (.agg [iA 6,iA 0,.str [],.gs 100007 0 (ns.length+[AV.str s].length),.gs 100009 0 (out.length+[eV hy y].length)])),(100003,.dead),(100004,.dead),(100005,gB (eV hy y)),(100006,.arr 9 1 [.str s] .own),(100007,.arr 9 1 (List.take ns.length (List.map AV.str ns)++[AV.str s]) .own),(100008,.arr 25 5 [eV hy y] .own),(100009,.arr 25 5 (List.take out.length (encVs out)++[eV hy y]) .own)]}),[ee],((out.length+[eV hy y].length) * 80<=140737488355328)::((St.own=St.own\/St.own=St.shr/\out.length=(encVs out).length)/\out.length<=(encVs out).length)::((ns.length+[AV.str s].length) * 16<=140737488355328)::((St.own=St.own\/St.own=St.shr/\ns.length=(List.map AV.str ns).length)/\ns.length<=(List.map AV.str ns).length)::((List.map AV.str h.names)[(i:Int).toNat]?=some (AV.str s))::MZ W 76 [eV hx k,sL 1 (sL 1 (List.map AV.str r0)::ppA rs),bA false] [] (.ret (eV hy y) [])::(d4 (decide (hx.kind=6)=false) [MZ W 97 [sL 1 (ppA ps),.str s] [] (.ret (.tup [sL 1 (sL 1 (List.map AV.str r0)::ppA rs),bA false]) []),(List.map AV.str h.names)[(i:Int).toNat]?=some (AV.str s),(encVs l)[(i:Int).toNat]?=some (eV hx k),decide ((i:Int)<n)=true])):=kr
theorem zho {p:Prop} (h:p:=by and_intros<;>first|exact trivial|exact gOK_ph' rfl (by decide) rfl|exact gOK_eq rfl rfl rfl|(refine gOK_box rfl rfl rfl ?_;exact zp)|exact gOK_arr rfl rfl rfl zb|exact gOK_arr rfl rfl hsetN zb|exact gOK_arr rfl rfl hsetO zb):p:=h
theorem Ha4_z1 {kp f ph σ σ'} (h:MatchK kp f ph σ σ':=by exact ⟨by rfl,(by simp only [L30,E30l,O30,E30o,zV,tOK,List.map_cons,List.map_nil,and_true]<;>exact zt),(by simp only [L30,E30l,O30,E30o,zV,hOK,List.map_cons,List.map_nil,and_true]<;>exact zho),(by simp only [L30,E30l,O30,E30o,zV,liveT,List.map_cons,List.map_nil,and_true]<;>exact zv),(by simp only [L30,E30l,O30,E30o,zV,liveH,List.map_cons,List.map_nil,and_true]<;>exact zv)⟩):MatchK kp f ph σ σ':=h
theorem Ha4_z2 {cs} (h:Holds cs:=by simp only [Holds,and_true]<;>and_intros<;>first|assumption|exact zd|exact Ha4_z1):Holds cs:=h
theorem call30h:callable Tryz.prog 76=true:=kr
theorem call11h:callable Tryz.prog 56=true:=kr
section
variable (W:World)
theorem encVs_ap:∀ (a b:List JV),encVs (a++b)=encVs a++encVs b
 | [],b=>rfl
 | x::a,b=>by rw [List.cons_append,encVs,encVs,encVs_ap a b];rfl
theorem push_o (out:List JV) (x:JV):List.take out.length (encVs out)++[encV x]=encVs (out++[x]):=by rw [<-encVs_len out,List.take_length,encVs_ap];rfl
theorem push_n (ns:List (List UInt8)) (s:List UInt8):List.take ns.length (List.map AV.str ns)++[AV.str s]=List.map AV.str (ns++[s]):=by
 have:List.take ns.length (List.map AV.str ns)=List.map AV.str ns:=List.take_of_length_le (by simp)
 rw [this,List.map_append];rfl
theorem thrL_at {b:Bool} {ps:List (List (List UInt8))} {l:List JV} {i:Nat} {x:JV} (h:l[i]?=some x):thrL b ps (l.drop i)=if deepB x=true\/b=false then thrV b ps x::thrL b ps (l.drop (i+1)) else thrL b ps (l.drop (i+1)):=by rw [drop_get h,thrL]
theorem thrM_at {b:Bool} {ps:List (List (List UInt8))} {ns:List (List UInt8)} {l:List JV} {i:Nat} {s:List UInt8} {x:JV} (hs:ns[i]?=some s) (h:l[i]?=some x):thrM b ps (ns.drop i) (l.drop i) =
 if (b=true/\(restsV ps s).2=true)\/(b=false/\(restsV ps s).2=false/\(restsV ps s).1=[]) then (s::(thrM b ps (ns.drop (i+1)) (l.drop (i+1))).1,x::(thrM b ps (ns.drop (i+1)) (l.drop (i+1))).2)
 else if (b=true/\((restsV ps s).1=[]\/deepB x=false))\/(b=false/\(restsV ps s).2=true) then thrM b ps (ns.drop (i+1)) (l.drop (i+1))
 else (s::(thrM b ps (ns.drop (i+1)) (l.drop (i+1))).1,thrV b (restsV ps s).1 x::(thrM b ps (ns.drop (i+1)) (l.drop (i+1))).2):=by rw [drop_get hs,drop_get h,thrM]
theorem thrM_nil {b:Bool} {ps:List (List (List UInt8))} {ns:List (List UInt8)} {l:List JV} (h:ns=[]\/l=[]):thrM b ps ns l=([],[]):=by
 rcases h with rfl|rfl
 ·cases l<;>simp [thrM]
 ·cases ns<;>simp [thrM]
inductive Rnd (h:JH) (l:List JV) (ps:List (List (List UInt8))) (b:Bool) (m:Nat) (s:List UInt8) (x:JV) (i:Nat):Prop
 | keep (y:JV) (ht:∀ r:List (List UInt8)×List JV,(thrM b ps (h.names.drop (i+1)) (l.drop (i+1)))=r->thrM b ps (h.names.drop i) (l.drop i)=(s::r.1,y::r.2))
  (hb:∀ (ns:List (List UInt8)) (out:List JV),ns.length<=i->out.length<=i->BodyC Tryz.prog W [] (nslots Tryz.prog 76) (loopOf Tryz.prog 76 1) (O30 h l ps b m ns out i) .normal (O30 h l ps b m (ns++[s]) (out++[y]) (i+1)))
 | skip (ht:thrM b ps (h.names.drop i) (l.drop i)=thrM b ps (h.names.drop (i+1)) (l.drop (i+1)))
  (hb:∀ (ns:List (List UInt8)) (out:List JV),BodyC Tryz.prog W [] (nslots Tryz.prog 76) (loopOf Tryz.prog 76 1) (O30 h l ps b m ns out i) .normal (O30 h l ps b m ns out (i+1)))
theorem round30 (h:JH) (l:List JV) (ps:List (List (List UInt8))) (b:Bool) (m:Nat) (s:List UInt8) (x:JV) (i:Nat) (hne:∀ p ∈ ps,p ≠ []) (hpl:ps.length<=2 ^ 30) (hs:h.names[i]?=some s) (hx:l[i]?=some x) (him:i<m) (hm:m<=2 ^ 31)
 (ih:∀ (rs:List (List (List UInt8))),rs.length<=2 ^ 30->(∀ p ∈ rs,p ≠ [])->Pure Tryz.prog W 76 [encV x,.sl 1 (ppA rs) [],bA b] (encV (thrV b rs x))):Rnd W h l ps b m s x i:=by
 have e:decide ((i:Int)<(m:Int))=true:=decide_eq_true (by omega)
 have hws:IntKind.i64.wrap ((i:Int)+1)=((i+1:Nat):Int):=wrap_succ (by omega)
 have hc47:=mut_of_pure (by rfl) (rests47 W ps s hne hpl)
 have hr1:=rests_len ps s
 have hr2:=rests_ne hne s
 have hr3:(restsV ps s).2=true->(restsV ps s).1=[]:=fun g=>restsG_snd s ps [] g
 have hgs:(h.names.map AV.str)[((i:Int)).toNat]?=some (AV.str s):=by rw [Int.toNat_natCast];exact strs_get hs
 have hat:=thrM_at (b:=b) (ps:=ps) hs hx
 generalize restsV ps s=r at hc47 hr1 hr2 hr3 hat
 obtain ⟨rs,wh⟩:=r
 simp only at hc47 hr1 hr2 hr3 hat
 have hc30:=mut_of_pure (by simp [cloL,encV_clo,AV.clo,bA]) (ih rs (by omega) hr2)
 have hdp:deepB x=true ↔ (x.kind=6\/x.kind=5):=by simp [deepB]
 generalize hy:thrV b rs x=y at hc30 hat
 obtain ⟨hx1,k⟩:=x
 obtain ⟨hy1,k2⟩:=y
 have hk1:(JV.mk hx1 k).kind=hx1.kind:=rfl
 rw [hk1] at hdp
 have hget:(encVs l)[((i:Int)).toNat]?=some (encV (.mk hx1 k)):=by rw [Int.toNat_natCast];exact encVs_get hx
 have len1:∀ (ns:List (List UInt8)),ns.length<=i->(ns.length+[AV.str s].length) * 16<=140737488355328:=fun ns hn=>by simp only [List.length_cons,List.length_nil];omega
 have len2:∀ (out:List JV) (z:JV),out.length<=i->(out.length+[encV z].length) * 80<=140737488355328:=fun out z hn=>by simp only [List.length_cons,List.length_nil];omega
 have le1:∀ (ns:List (List UInt8)),(St.own=St.own\/St.own=St.shr/\ns.length=(List.map AV.str ns).length)/\ns.length<=(List.map AV.str ns).length:=fun ns=>⟨.inl rfl,by rw [List.length_map];omega⟩
 have le2:∀ (out:List JV),(St.own=St.own\/St.own=St.shr/\out.length=(encVs out).length)/\out.length<=(encVs out).length:=fun out=>⟨.inl rfl,by rw [encVs_len];omega⟩
 cases b with
 | true =>
  cases wh with
  | true =>
   obtain rfl:=hr3 rfl
   by_cases k6:hx1.kind=6
   ·have c6:=decide_eq_true k6
    refine .keep (.mk hx1 k) (fun r hr=>by rw [hat,if_pos (.inl ⟨rfl,rfl⟩),hr]) fun ns out hn ho=>?_
    have hsetN:=push_n ns s
    have hsetO:=push_o out (.mk hx1 k)
    have q1:=len1 ns hn
    have q2:=len2 out (.mk hx1 k) ho
    have q3:=le1 ns
    have q4:=le2 out
    exact body_of_sbodyK mixedz (b30o_tte6_0 W h hx1 l k out ps ns m i s) Ha4_z2 [(100003,100007),(100004,100009)] [] Ha4_z1
   ·have c6:=decide_eq_false k6
    refine .keep (.mk hx1 k) (fun r hr=>by rw [hat,if_pos (.inl ⟨rfl,rfl⟩),hr]) fun ns out hn ho=>?_
    have hsetN:=push_n ns s
    have hsetO:=push_o out (.mk hx1 k)
    have q1:=len1 ns hn
    have q2:=len2 out (.mk hx1 k) ho
    have q3:=le1 ns
    have q4:=le2 out
    exact body_of_sbodyK mixedz (b30o_tte7_0 W h hx1 l k out ps ns m i s) Ha4_z2 [(100003,100007),(100004,100009)] [] Ha4_z1
  | false =>
   have n1:¬ ((true=true/\false=true)\/(true=false/\false=false/\rs=[])):=by simp
   cases rs with
   | nil =>
    by_cases k6:hx1.kind=6
    ·have c6:=decide_eq_true k6
     exact .skip (by rw [hat,if_neg n1,if_pos (.inl ⟨rfl,.inl rfl⟩)]) fun ns out=>body_of_sbodyK mixedz (b30o_tfe6_0 W h hx1 l k out ps ns m i s) Ha4_z2 [] [] Ha4_z1
    ·have c6:=decide_eq_false k6
     exact .skip (by rw [hat,if_neg n1,if_pos (.inl ⟨rfl,.inl rfl⟩)]) fun ns out=>body_of_sbodyK mixedz (b30o_tfe7_0 W h hx1 l k out ps ns m i s) Ha4_z2 [] [] Ha4_z1
   | cons r0 rs =>
    by_cases k6:hx1.kind=6
    ·have c6:=decide_eq_true k6
     have n2:¬ ((true=true/\(r0::rs=[]\/deepB (.mk hx1 k)=false))\/(true=false/\false=true)):=by rw [hdp.2 (.inl k6)];simp
     refine .keep (.mk hy1 k2) (fun r hr=>by rw [hat,if_neg n1,if_neg n2,hr]) fun ns out hn ho=>?_
     have hsetN:=push_n ns s
     have hsetO:=push_o out (.mk hy1 k2)
     have q1:=len1 ns hn
     have q2:=len2 out (.mk hy1 k2) ho
     have q3:=le1 ns
     have q4:=le2 out
     exact body_of_sbodyK mixedz (b30o_tfn6_0 W h hx1 hy1 l k k2 out ps rs ns m i s r0) Ha4_z2 [(100003,100007),(100004,100009)] [] Ha4_z1
    ·have c6:=decide_eq_false k6
     by_cases k5:hx1.kind=5
     ·have c5:(!decide (hx1.kind=5))=false:=by rw [decide_eq_true k5];rfl
      have n2:¬ ((true=true/\(r0::rs=[]\/deepB (.mk hx1 k)=false))\/(true=false/\false=true)):=by rw [hdp.2 (.inr k5)];simp
      refine .keep (.mk hy1 k2) (fun r hr=>by rw [hat,if_neg n1,if_neg n2,hr]) fun ns out hn ho=>?_
      have hsetN:=push_n ns s
      have hsetO:=push_o out (.mk hy1 k2)
      have q1:=len1 ns hn
      have q2:=len2 out (.mk hy1 k2) ho
      have q3:=le1 ns
      have q4:=le2 out
      exact body_of_sbodyK mixedz (b30o_tfn5_1 W h hx1 hy1 l k k2 out ps rs ns m i s r0) Ha4_z2 [(100003,100007),(100004,100009)] [] Ha4_z1
     ·have c5:(!decide (hx1.kind=5))=true:=by rw [decide_eq_false k5];rfl
      have nd:deepB (.mk hx1 k)=false:=by cases hd:deepB (.mk hx1 k) with|false=>rfl|true=>exact absurd (hdp.1 hd) (by simp [k6,k5])
      exact .skip (by rw [hat,if_neg n1,if_pos (.inl ⟨rfl,.inr nd⟩)]) fun ns out=>body_of_sbodyK mixedz (b30o_tfn7_0 W h hx1 l k out ps rs ns m i s r0) Ha4_z2 [] [] Ha4_z1
 | false =>
  cases wh with
  | true =>
   obtain rfl:=hr3 rfl
   have n1:¬ ((false=true/\true=true)\/(false=false/\true=false/\([]:List (List (List UInt8)))=[])):=by simp
   by_cases k6:hx1.kind=6
   ·have c6:=decide_eq_true k6
    exact .skip (by rw [hat,if_neg n1,if_pos (.inr ⟨rfl,rfl⟩)]) fun ns out=>body_of_sbodyK mixedz (b30o_fte6_0 W h hx1 l k out ps ns m i s) Ha4_z2 [] [] Ha4_z1
   ·have c6:=decide_eq_false k6
    exact .skip (by rw [hat,if_neg n1,if_pos (.inr ⟨rfl,rfl⟩)]) fun ns out=>body_of_sbodyK mixedz (b30o_fte7_0 W h hx1 l k out ps ns m i s) Ha4_z2 [] [] Ha4_z1
  | false =>
   cases rs with
   | nil =>
    by_cases k6:hx1.kind=6
    ·have c6:=decide_eq_true k6
     refine .keep (.mk hx1 k) (fun r hr=>by rw [hat,if_pos (.inr ⟨rfl,rfl,rfl⟩),hr]) fun ns out hn ho=>?_
     have hsetN:=push_n ns s
     have hsetO:=push_o out (.mk hx1 k)
     have q1:=len1 ns hn
     have q2:=len2 out (.mk hx1 k) ho
     have q3:=le1 ns
     have q4:=le2 out
     exact body_of_sbodyK mixedz (b30o_ffe6_0 W h hx1 l k out ps ns m i s) Ha4_z2 [(100003,100007),(100004,100009)] [] Ha4_z1
    ·have c6:=decide_eq_false k6
     refine .keep (.mk hx1 k) (fun r hr=>by rw [hat,if_pos (.inr ⟨rfl,rfl,rfl⟩),hr]) fun ns out hn ho=>?_
     have hsetN:=push_n ns s
     have hsetO:=push_o out (.mk hx1 k)
     have q1:=len1 ns hn
     have q2:=len2 out (.mk hx1 k) ho
     have q3:=le1 ns
     have q4:=le2 out
     exact body_of_sbodyK mixedz (b30o_ffe7_0 W h hx1 l k out ps ns m i s) Ha4_z2 [(100003,100007),(100004,100009)] [] Ha4_z1
   | cons r0 rs =>
    have n1:¬ ((false=true/\false=true)\/(false=false/\false=false/\r0::rs=[])):=by simp
    have n2:¬ ((false=true/\(r0::rs=[]\/deepB (.mk hx1 k)=false))\/(false=false/\false=true)):=by simp
    by_cases k6:hx1.kind=6
    ·have c6:=decide_eq_true k6
     refine .keep (.mk hy1 k2) (fun r hr=>by rw [hat,if_neg n1,if_neg n2,hr]) fun ns out hn ho=>?_
     have hsetN:=push_n ns s
     have hsetO:=push_o out (.mk hy1 k2)
     have q1:=len1 ns hn
     have q2:=len2 out (.mk hy1 k2) ho
     have q3:=le1 ns
     have q4:=le2 out
     exact body_of_sbodyK mixedz (b30o_ffn6_0 W h hx1 hy1 l k k2 out ps rs ns m i s r0) Ha4_z2 [(100003,100007),(100004,100009)] [] Ha4_z1
    ·have c6:=decide_eq_false k6
     by_cases k5:hx1.kind=5
     ·have c5:=decide_eq_true k5
      refine .keep (.mk hy1 k2) (fun r hr=>by rw [hat,if_neg n1,if_neg n2,hr]) fun ns out hn ho=>?_
      have hsetN:=push_n ns s
      have hsetO:=push_o out (.mk hy1 k2)
      have q1:=len1 ns hn
      have q2:=len2 out (.mk hy1 k2) ho
      have q3:=le1 ns
      have q4:=le2 out
      exact body_of_sbodyK mixedz (b30o_ffn5_0 W h hx1 hy1 l k k2 out ps rs ns m i s r0) Ha4_z2 [(100003,100007),(100004,100009)] [] Ha4_z1
     ·have c5:=decide_eq_false k5
      refine .keep (.mk hy1 k2) (fun r hr=>by rw [hat,if_neg n1,if_neg n2,hr]) fun ns out hn ho=>?_
      have hsetN:=push_n ns s
      have hsetO:=push_o out (.mk hy1 k2)
      have q1:=len1 ns hn
      have q2:=len2 out (.mk hy1 k2) ho
      have q3:=le1 ns
      have q4:=le2 out
      exact body_of_sbodyK mixedz (b30o_ffn7_0 W h hx1 hy1 l k k2 out ps rs ns m i s r0) Ha4_z2 [(100003,100007),(100004,100009)] [] Ha4_z1
theorem loop30o (h:JH) (l:List JV) (ps:List (List (List UInt8))) (b:Bool) (m:Nat) (hm:m<=2 ^ 31) (hmn:m<=h.names.length) (hml:m<=l.length) (hmin:m=l.length\/m=h.names.length) (hne:∀ p ∈ ps,p ≠ []) (hpl:ps.length<=2 ^ 30)
 (ih:∀ (i:Nat) (x:JV),l[i]?=some x->∀ (rs:List (List (List UInt8))),rs.length<=2 ^ 30->(∀ p ∈ rs,p ≠ [])->Pure Tryz.prog W 76 [encV x,.sl 1 (ppA rs) [],bA b] (encV (thrV b rs x))) :
 ∀ (j i:Nat) (ns:List (List UInt8)) (out:List JV),m - i=j->i<=m->ns.length<=i->out.length<=i →
  LoopC Tryz.prog W [] (nslots Tryz.prog 76) (loopOf Tryz.prog 76 1) (O30 h l ps b m ns out i) (.exit 3) (E30o (ns++(thrM b ps (h.names.drop i) (l.drop i)).1) (out++(thrM b ps (h.names.drop i) (l.drop i)).2)):=by
 intro j
 induction j with
 | zero =>
  intro i ns out hj hi hn ho
  have e:decide ((i:Int)<(m:Int))=false:=decide_eq_false (by omega)
  rw [thrM_nil (ns:=h.names.drop i) (l:=l.drop i) (by
   rcases hmin with q|q
   ·right;exact List.drop_of_length_le (by omega)
   ·left;exact List.drop_of_length_le (by omega)),List.append_nil,List.append_nil]
  cases b with
  | true=>exact loop_last (by simp) (body_of_sbodyK mixedz (b30o_tte7_1 W h l out ps ns m i) Ha4_z2 [] [] Ha4_z1)
  | false=>exact loop_last (by simp) (body_of_sbodyK mixedz (b30o_fte7_1 W h l out ps ns m i) Ha4_z2 [] [] Ha4_z1)
 | succ j ihj =>
  intro i ns out hj hi hn ho
  obtain ⟨x,hx⟩:=getOf (l:=l) (i:=i) (by omega)
  obtain ⟨s,hs⟩:=getOf (l:=h.names) (i:=i) (by omega)
  rcases round30 W h l ps b m s x i hne hpl hs hx (by omega) hm (ih i x hx) with ⟨y,ht,hb⟩|⟨ht,hb⟩
  ·have h1:=ihj (i+1) (ns++[s]) (out++[y]) (by omega) (by omega) (by rw [List.length_append];simp only [List.length_cons,List.length_nil];omega) (by rw [List.length_append];simp only [List.length_cons,List.length_nil];omega)
   rw [List.append_assoc,List.append_assoc] at h1
   rw [ht _ rfl]
   exact loop_next (hb ns out hn ho) h1
  ·rw [ht]
   exact loop_next (hb ns out) (ihj (i+1) ns out (by omega) (by omega) (by omega) (by omega))
theorem loop30l (l:List JV) (ps:List (List (List UInt8))) (b:Bool) (hl:l.length<=2 ^ 31)
 (ih:∀ (i:Nat) (x:JV),l[i]?=some x->Pure Tryz.prog W 76 [encV x,.sl 1 (ppA ps) [],bA b] (encV (thrV b ps x))) :
 ∀ (j i:Nat) (out:List JV),l.length - i=j->i<=l.length->out.length<=i->LoopC Tryz.prog W [] (nslots Tryz.prog 76) (loopOf Tryz.prog 76 0) (L30 ps b l out i) (.exit 1) (E30l (out++thrL b ps (l.drop i))):=by
 intro j
 induction j with
 | zero =>
  intro i out hj hi ho
  have e:decide ((i:Int)<(((encVs l).length:Nat):Int))=false:=by rw [encVs_len];exact decide_eq_false (by omega)
  rw [List.drop_of_length_le (l:=l) (by omega),thrL,List.append_nil]
  exact loop_last (by simp) (body_of_sbodyK mixedz (b30l_4 W l out ps b i) Ha4_z2 [] [] Ha4_z1)
 | succ j ihj =>
  intro i out hj hi ho
  obtain ⟨x,hx⟩:=getOf (l:=l) (i:=i) (by omega)
  have e:decide ((i:Int)<(((encVs l).length:Nat):Int))=true:=by rw [encVs_len];exact decide_eq_true (by omega)
  have hws:IntKind.i64.wrap ((i:Int)+1)=((i+1:Nat):Int):=wrap_succ (by omega)
  have hc30:=mut_of_pure (by simp [cloL,encV_clo,AV.clo,bA]) (ih i x hx)
  have hdp:deepB x=true ↔ (x.kind=6\/x.kind=5):=by simp [deepB]
  rw [thrL_at hx]
  generalize thrV b ps x=y at hc30
  obtain ⟨hx1,k⟩:=x
  obtain ⟨hy1,k2⟩:=y
  have hk1:(JV.mk hx1 k).kind=hx1.kind:=rfl
  rw [hk1] at hdp
  have hget:(encVs l)[((i:Int)).toNat]?=some (encV (.mk hx1 k)):=by rw [Int.toNat_natCast];exact encVs_get hx
  have q2:(out.length+[encV (.mk hy1 k2)].length) * 80<=140737488355328:=by simp only [List.length_cons,List.length_nil];omega
  have q4:(St.own=St.own\/St.own=St.shr/\out.length=(encVs out).length)/\out.length<=(encVs out).length:=⟨.inl rfl,by rw [encVs_len];omega⟩
  have hsetO:=push_o out (.mk hy1 k2)
  have hone:(out++[JV.mk hy1 k2]).length<=i+1:=by rw [List.length_append];simp only [List.length_cons,List.length_nil];omega
  have h1:=ihj (i+1) (out++[.mk hy1 k2]) (by omega) (by omega) hone
  rw [List.append_assoc,List.singleton_append] at h1
  by_cases k6:hx1.kind=6
  ·have c6:=decide_eq_true k6
   rw [if_pos (.inl (hdp.2 (.inl k6)))]
   exact loop_next (body_of_sbodyK mixedz (b30l_0 W hx1 hy1 l k k2 out ps b i) Ha4_z2 [(100003,100006)] [] Ha4_z1) h1
  have c6:=decide_eq_false k6
  by_cases k5:hx1.kind=5
  ·have c5:=decide_eq_true k5
   rw [if_pos (.inl (hdp.2 (.inr k5)))]
   exact loop_next (body_of_sbodyK mixedz (b30l_1 W hx1 hy1 l k k2 out ps b i) Ha4_z2 [(100003,100006)] [] Ha4_z1) h1
  have c5:=decide_eq_false k5
  have nd:¬ deepB (.mk hx1 k)=true:=fun hd=>absurd (hdp.1 hd) (by simp [k6,k5])
  cases b with
  | true =>
   have cb:(!true)=false:=rfl
   rw [if_neg (by rintro (q|q);exact nd q;cases q)]
   exact loop_next (body_of_sbodyK mixedz (b30l_3 W hx1 l k out ps true i) Ha4_z2 [] [] Ha4_z1) (ihj (i+1) out (by omega) (by omega) (by omega))
  | false =>
   have cb:(!false)=true:=rfl
   rw [if_pos (.inr rfl)]
   exact loop_next (body_of_sbodyK mixedz (b30l_2 W hx1 hy1 l k k2 out ps false i) Ha4_z2 [(100003,100006)] [] Ha4_z1) h1
theorem through30 (b:Bool):∀ (n:Nat) (v:JV) (ps:List (List (List UInt8))),sizeV v<n->cntV v<=2 ^ 30->ps.length<=2 ^ 30->(∀ p ∈ ps,p ≠ [])->Pure Tryz.prog W 76 [encV v,.sl 1 (ppA ps) [],bA b] (encV (thrV b ps v))
 | 0,_,_,h,_,_,_=>by omega
 | n+1,.mk h l,ps,hs,hc,hpl,hne=>by
  have hln:=cntV_len (.mk h l)
  simp only [JV.items,JV.names,JV.hd] at hln
  have ih:∀ (i:Nat) (x:JV),l[i]?=some x->∀ (rs:List (List (List UInt8))),rs.length<=2 ^ 30->(∀ p ∈ rs,p ≠ [])->Pure Tryz.prog W 76 [encV x,.sl 1 (ppA rs) [],bA b] (encV (thrV b rs x)):=fun i x hx rs h1 h2 =>
   through30 b n x rs (by have:=sizeV_item (v:=.mk h l) hx;omega) (by have:=cntV_item (v:=.mk h l) hx;omega) h1 h2
  rw [thrV]
  by_cases k5:h.kind=5
  ·have c5:=decide_eq_true k5
   rw [if_pos k5]
   have hlp:=loop30l W l ps b (by omega) (fun i x hx=>ih i x hx ps hpl hne) l.length 0 [] (by omega) (by omega) (Nat.le_refl _)
   rw [List.drop_zero,List.nil_append] at hlp
   generalize thrL b ps l=out at hlp ⊢
   have hM:=mut_of_sfun mixedz call30h rfl (p30l_0 W h l out ps b) ⟨Ha4_z1,hlp,Ha4_z1,c5,trivial⟩
   refine pure_leR ?_ (pure_frz [(100003,.arr 25 5 (encVs out) .own)] (r':=.agg [iA 5,iA 0,.str [],.val (.slice none 0 0),.sl 5 (encVs out) []]) hM (frz2 rfl (encVs_clo out)) ?_ ?_)
   ·exact .agg (.cons (.refl _) (.cons (.refl _) (.cons (.refl _) (.cons (.nil 1) (.cons (.refl _) .nil)))))
   ·simp [clA,clL,lk,iA,<-encVs_len out]
   ·simp [AV.clo,cloL,encVs_clo,iA]
  have c5:=decide_eq_false k5
  rw [if_neg k5]
  by_cases k6:h.kind=6
  ·have c6:=decide_eq_true k6
   rw [if_pos k6]
   have hmin:(JV.mk h l).mem=l.length\/(JV.mk h l).mem=h.names.length:=by rw [mem_mk];split<;>omega
   have hme:(if ((encVs l).length:Int)<((List.map AV.str h.names).length:Int) then ((encVs l).length:Int) else ((List.map AV.str h.names).length:Int))=(((JV.mk h l).mem:Nat):Int):=by
    rw [mem_mk,encVs_len,List.length_map];split<;>split<;>omega
   have hmn:=JV.mem_names (.mk h l)
   have hml:=JV.mem_items (.mk h l)
   simp only [JV.items,JV.names,JV.hd] at hmn hml
   generalize (JV.mk h l).mem=m at hmin hme hmn hml
   have hlp:=loop30o W h l ps b m (by omega) hmn hml hmin hne hpl ih m 0 [] [] (by omega) (by omega) (Nat.le_refl _) (Nat.le_refl _)
   rw [List.drop_zero,List.drop_zero,List.nil_append,List.nil_append] at hlp
   generalize (thrM b ps h.names l).1=ns at hlp ⊢
   generalize (thrM b ps h.names l).2=out at hlp ⊢
   have hM:=mut_of_sfun mixedz call30h rfl (p30o_0 W h l out ps ns b m) ⟨Ha4_z1,hlp,Ha4_z1,c6,c5,trivial⟩
   refine pure_frz [(100003,.arr 9 1 (ns.map AV.str) .own),(100004,.arr 25 5 (encVs out) .own)] hM ?_ ?_ (encV_clo _)
   ·intro p hp
    simp only [List.mem_cons,List.not_mem_nil,or_false] at hp
    rcases hp with rfl|rfl
    ·exact ⟨rfl,cloL_str _⟩
    ·exact ⟨rfl,encVs_clo _⟩
   ·simp [clA,clL,lk,iA,encV,<-encVs_len out];try exact List.take_of_length_le (by simp)
  have c6:=decide_eq_false k6
  rw [if_neg k6]
  exact pure_of_mut (encV_clo _) (mut_of_sfun mixedz call30h rfl (p30x_0 W h l ps b) Ha4_z2)
def fldA (ps:List (List (List UInt8))) (b:Bool):AV:=.ip (.agg [.sl 1 (ppA ps) [],bA b]) 0
theorem apply11 (b:Bool) (v:JV) (ps:List (List (List UInt8))) (hc:cntV v<=2 ^ 30) (hpl:ps.length<=2 ^ 30) (hne:∀ p ∈ ps,p ≠ []) (h0:ps ≠ []):Pure Tryz.prog W 56 [fldA ps b,encV v] (encV (thrV b ps v)):=by
 have h1:=mut_of_pure (by simp [cloL,encV_clo,AV.clo,bA]) (through30 W b _ v ps (Nat.lt_succ_self _) hc hpl hne)
 have e:decide (((ppA ps).length:Int)=0)=false:=by
  rw [ppA_len];refine decide_eq_false fun q=>h0 (List.length_eq_zero_iff.1 (by omega))
 generalize thrV b ps v=y at h1 ⊢
 obtain ⟨h,l⟩:=v
 obtain ⟨hy,k⟩:=y
 exact pure_of_mut (encV_clo _) (mut_of_sfun mixedz call11h rfl (p11_1 W h hy l k ps b) Ha4_z2)
end
end Go.Ac

namespace Go.Ac
open Go
set_option maxRecDepth 4000
def sumL:List (List UInt8)->Nat
 | []=>0
 | x::l=>x.length+1+sumL l
theorem splitD_sum (c:UInt8):∀ s:List UInt8,sumL (splitD c s)=s.length+1
 | []=>rfl
 | x::l=>by
  have ih:=splitD_sum c l
  simp only [splitD]
  split
  ·simp only [sumL,List.length_nil,List.length_cons];omega
  ·split
   ·rename_i e;exact absurd e (splitD_ne c l)
   ·rename_i y r e
    rw [e] at ih
    simp only [sumL,List.length_cons] at ih ⊢;omega
theorem scan_all:∀ (l:List (List UInt8)) (n:Nat) (t:Int),n<=16->scanV l n t=none->n+l.length<=16/\∀ x ∈ l,segB x=true
 | [],n,t,hn,_=>⟨by simpa using hn,fun x hx=>by cases hx⟩
 | s::l,n,t,hn,h=>by
  rw [scanV] at h
  split at h
  ·cases h
  ·rename_i q
   have q1:segB s=true:=by cases e:segB s with|true=>rfl|false=>exact absurd (.inl e) q
   have q2:n ≠ 16:=fun e=>q (.inr e)
   obtain ⟨h1,h2⟩:=scan_all l (n+1) _ (by omega) h
   refine ⟨by simp only [List.length_cons];omega,fun x hx=>?_⟩
   rcases List.mem_cons.1 hx with rfl|hx
   ·exact q1
   ·exact h2 x hx
theorem sum_le (m:Nat):∀ l:List (List UInt8),(∀ x ∈ l,x.length<=m)->sumL l<=l.length * (m+1)
 | [],_=>by simp [sumL]
 | x::l,h=>by
  have:=sum_le m l fun y hy=>h y (by simp [hy])
  have:=h x (by simp)
  simp only [sumL,List.length_cons,Nat.add_mul];omega
theorem segB_len {s:List UInt8} (h:segB s=true):s.length<=64:=by
 simp only [segB,Bool.and_eq_true,decide_eq_true_eq] at h;exact h.1.1.2
theorem parse_ok {s:List UInt8} (h:parseE s=0):s.length<=2 ^ 30/\parseP s ≠ []/\(parseP s).length<=16:=by
 have hsum:=splitD_sum 46 s
 have hne:=splitD_ne 46 s
 unfold parseE at h
 unfold parseP
 cases hq:scanV (splitD 46 s) 0 0 with
 | some t=>rw [hq] at h;cases h
 | none =>
  obtain ⟨h1,h2⟩:=scan_all _ 0 0 (by omega) hq
  have h3:=sum_le 64 (splitD 46 s) fun x hx=>segB_len (h2 x hx)
  have h4:(splitD 46 s).length * (64+1)<=16 * 65:=Nat.mul_le_mul_right _ (by omega)
  exact ⟨by omega,hne,by simpa using h1⟩
theorem parse_01 (s:List UInt8):parseE s=0\/parseE s=20:=by unfold parseE;split<;>simp
theorem parse_len (s:List UInt8):(parseP s).length<=16:=by
 rcases parse_01 s with h|h
 ·exact (parse_ok h).2.2
 ·unfold parseP;unfold parseE at h;split at h
  ·omega
  ·simp
end Go.Ac

