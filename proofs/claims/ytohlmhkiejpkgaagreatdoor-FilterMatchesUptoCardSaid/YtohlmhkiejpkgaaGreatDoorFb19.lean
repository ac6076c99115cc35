/- What is proved: contracts of functions of this translation, walked; their plain meaning. No condition beyond those that each theorem names. -/
import Derived.Test.YtohlmhkiejpkgaaGreatDoorPl1
import Derived.Test.YtohlmhkiejpkgaaGreatDoorFl1
import Derived.Test.YtohlmhkiejpkgaaGreatDoorFr1
set_option linter.all false
namespace Go.Ac
open Go Go.Proofs
set_option maxRecDepth 10000
set_option maxHeartbeats 1000000
theorem Fb19_z1 {kp f ph σ σ'} (h:MatchK kp f ph σ σ':=by exact ⟨by rfl,(by simp only [S28,B28,S14,E14,tOK,List.map_cons,List.map_nil,and_true]<;>exact zt),(by simp only [S28,B28,S14,E14,hOK,List.map_cons,List.map_nil,and_true]<;>exact zh),(by simp only [S28,B28,S14,E14,liveT,List.map_cons,List.map_nil,and_true]<;>exact zv),(by simp only [S28,B28,S14,E14,liveH,List.map_cons,List.map_nil,and_true]<;>exact zv)⟩):MatchK kp f ph σ σ':=h
theorem Fb19_z3 {cs} (h:Holds cs:=by simp only [Holds,and_true]<;>and_intros<;>first|exact zd):Holds cs:=h
theorem Fb19_z4 {cs} (h:Holds cs:=by simp only [Holds,and_true]<;>and_intros<;>first|exact zd|exact Fb19_z1):Holds cs:=h
def B28 (h:JH) (n m:Nat):AV:=.agg [iA h.kind,iA 0,.str [],.gs 100003 0 n,.gs 100004 0 m]
def S28 (h:JH) (l:List JV) (ns:List (List UInt8)) (ks:List JV) (i:Int):AS:=⟨[(1,.gp 100000 0),(2,.gp 100001 0),(3,.gp 100002 0),(4,iA i)],[(100000,.box (encV (.mk h l)) .own),(100001,.box (.agg [iA 0,iA 0,.str [],.val (.slice none 0 0),.val (.slice none 0 0)]) .own),(100002,.box (B28 h ns.length ks.length) .own),(100003,.arr 9 1 (ns.map AV.str) .own),(100004,.arr 25 5 (encVs ks) .own)]⟩
def S14 (l:List JV) (n:Int) (i:Nat):AS:=⟨[(0,.sl 5 (encVs l) []),(3,iA n),(4,iA i)],[]⟩
def E14 (n:Int):AS:=⟨[(3,iA n)],[]⟩
theorem b14_0 (W:World) (l:List JV) (n m:Int) (i:Nat) (h:JH) (k:List JV):sQ W {lp:=true,tl:=[60]} 14 0 [] [0,3,4] (S14 l n i) [bt,aE 1,oS (eV h k),ee,cR (iA m) [],ee]=.ok ((.normal,{t:=[(0,sL 5 (encVs l)),(3,iA (IntKind.i64.wrap (n+m))),(4,iA (IntKind.i64.wrap ((i:Int)+1)))],h:=[]}),[ee],[MZ W 60 [eV h k,iA 5000] [] (.ret (iA m) []),(encVs l)[(i:Int).toNat]?=some (eV h k),decide ((i:Int)<(↑(encVs l).length:Int))=true]):=kr
theorem b14_1 (W:World) (l:List JV) (n:Int) (i:Nat) (h:JH):sQ W {lp:=true,tl:=[60]} 14 0 [] [0,3,4] (S14 l n i) [bf,ee]=.ok ((.exit 0,{t:=[(0,sL 5 (encVs l)),(3,iA n),(4,iA (i:Int))],h:=[]}),[ee],[decide ((i:Int)<(↑(encVs l).length:Int))=false]):=kr
theorem p14_0 (W:World) (l:List JV) (n:Int):sF W {lp:=true} 14 [.sl 5 (encVs l) []] [] 100000 [ee,.loopM [] [] (S14 l 0 0) (.exit 0) (E14 n),ee] []=.ok (.ret (bA (decide (5000<n))) [],[ee],[LZ W [] 14 0 (S14 l 0 0) (.exit 0) (E14 n),MatchK [] [] [] {t:=[(0,sL 5 (encVs l)),(3,iA 0),(4,iA 0)],h:=[]} (S14 l 0 0)]):=kr
theorem call14:callable Tryz.prog 14=true:=kr
theorem pushS (ns:List (List UInt8)) (x:List UInt8):List.take ns.length (List.map AV.str ns)++[AV.str x]=List.map AV.str (ns++[x]):=by
 rw [List.take_of_length_le (by simp),List.map_append];rfl
section
variable (W:World)
theorem loop14 (l:List JV) (hl:cntVs l<=2 ^ 30):∀ (k i:Nat) (n:Int),l.length - i=k->i<=l.length->∃ n',LoopC Tryz.prog W [] (nslots Tryz.prog 14) (loopOf Tryz.prog 14 0) (S14 l n i) (.exit 0) (E14 n'):=by
 have hln:=cntVs_len l
 intro k
 induction k with
 | zero =>
  intro i n hk h1
  exact ⟨n,loop_last (by simp) (body_of_sbodyK mixedz (b14_1 W l n i ⟨0,0,[],[]⟩) Fb19_z3 [] [] Fb19_z1)⟩
 | succ k ih =>
  intro i n hk h1
  obtain ⟨x,hx⟩:=getOf (l:=l) (i:=i) (by omega)
  have hws:IntKind.i64.wrap ((i:Int)+1)=((i+1:Nat):Int):=wrap_succ (by omega)
  have hget:(encVs l)[((i:Int)).toNat]?=some (encV x):=by rw [Int.toNat_natCast];exact encVs_get hx
  have hc:=mut_of_pure (by simp only [cloL,encV_clo,Bool.and_self];rfl) (parts W x 5000 (okV_cnt x (by have:=cntVs_get hx;omega)) (by omega) (by omega))
  obtain ⟨n',h'⟩:=ih (i+1) (IntKind.i64.wrap (n+partsV x 5000)) (by omega) (by omega)
  obtain ⟨h2,l2⟩:=x
  exact ⟨n',loop_next (body_of_sbodyK mixedz (b14_0 W l n _ i h2 l2) Fb19_z3 [] [] Fb19_z1) h'⟩
theorem large14 (l:List JV) (hl:cntVs l<=2 ^ 30):∃ b,Pure Tryz.prog W 14 [.sl 5 (encVs l) []] (bA b):=by
 obtain ⟨n,hlp⟩:=loop14 W l hl l.length 0 0 (by simp) (by omega)
 exact ⟨_,pure_of_mut rfl (mut_of_sfun mixedz call14 rfl (p14_0 W l n) Fb19_z4)⟩
end
end Go.Ac

