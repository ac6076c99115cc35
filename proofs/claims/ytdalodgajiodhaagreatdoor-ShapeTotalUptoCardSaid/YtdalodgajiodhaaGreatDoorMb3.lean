/- What is proved: contracts of functions of this translation, walked; their plain meaning. No condition beyond those that each theorem names. -/
import Derived.Test.YtdalodgajiodhaaGreatDoorMb1
import Derived.Test.YtdalodgajiodhaaGreatDoorMb2
import Derived.Lib.Bytealg
import Derived.Test.YtdalodgajiodhaaGreatDoorMa6
import Derived.Test.YtdalodgajiodhaaGreatDoorMa5
import Derived.Test.YtdalodgajiodhaaGreatDoorProg
set_option linter.all false
namespace Go.Ac
open Go Go.Proofs
set_option maxRecDepth 10000
set_option maxHeartbeats 1000000
def nilP:AV:=.val (.pointer none)
def nilS:AV:=.val (.slice none 0 0)
def S17 (A B:List Doc) (i:Nat):AS:=⟨[(0,.sl 7 (docsA A) []),(1,.sl 7 (docsA B) []),(5,iA i)],[]⟩
def E17:AS:=⟨[],[]⟩
def S8 (D:List Doc) (n:Int) (i:Nat):AS:=⟨[(0,.sl 7 (docsA D) []),(3,iA n),(4,iA i)],[]⟩
def E8 (D:List Doc) (n:Int):AS:=⟨[(0,.sl 7 (docsA D) []),(3,iA n)],[]⟩
def S16 (M L:List Doc):AS:=⟨[(0,nilS),(5,.gs 100000 0 M.length),(6,.gs 100001 0 L.length)],[(100000,.arr 40 7 (docsA M) .own),(100001,.arr 40 7 (docsA L) .own)]⟩
def T16 (M L:List Doc) (at_ i:Nat):AS:=⟨[(0,nilS),(5,.gs 100000 0 M.length),(6,.gs 100001 0 L.length),(7,iA at_),(8,iA i)],[(100000,.arr 40 7 (docsA M) .own),(100001,.arr 40 7 (docsA L) .own)]⟩
def U16 (M L:List Doc) (at_:Nat):AS:=⟨[(0,nilS),(5,.gs 100000 0 M.length),(6,.gs 100001 0 L.length),(7,iA at_)],[(100000,.arr 40 7 (docsA M) .own),(100001,.arr 40 7 (docsA L) .own)]⟩
def E16 (M:List Doc):AS:=⟨[(5,.gs 100000 0 M.length)],[(100000,.arr 40 7 (docsA M) .own)]⟩
theorem p13_0 (W:World) (x y:Doc):sF W {lp:=true,ol:=true,tl:=[]} 13 [nilP,docA x,docA y] [] 100000 [ee] []=.ok (.ret (iA (cmpB x.id y.id)) [],[aE 9999997],[]):=by
 obtain ⟨ix,vx,⟨hx,lx⟩⟩:=x;obtain ⟨iy,vy,⟨hy,ly⟩⟩:=y;(show _=_;kernel_rfl)
theorem p41_0 (W:World) (bb:Bool) (x y:Doc):sF W {lp:=true,ol:=true,tl:=[42]} 41 [docA x,docA y] [] 100000 [bt,bt,bt,bt,bt,bt,bt,bt,bt,bt,bt,ee,.lg,ee,cR (bA bb) [],bt,ee] []=.ok (.ret (bA bb) [],[ee],(decide (x.ver=y.ver)=true)::MZ W 42 [encV x.v,encV y.v] [] (.ret (bA bb) [])::cloHs []::(decide (x.ver=y.ver)=true)::(d4 (decide (x.ver=y.ver)=true) (d6 (decide (x.id=y.id)=true) []))):=by
 obtain ⟨ix,vx,⟨hx,lx⟩⟩:=x;obtain ⟨iy,vy,⟨hy,ly⟩⟩:=y;(show _=_;kernel_rfl)
theorem p41_1 (W:World) (x y:Doc):sF W {lp:=true,ol:=true,tl:=[42]} 41 [docA x,docA y] [] 100000 [bt,bt,bt,bt,bt,bt,bf,bf,bf,bf,bf,bf,ee] []=.ok (.ret (bA false) [],[ee],d6 (decide (x.ver=y.ver)=false) (d6 (decide (x.id=y.id)=true) [])):=by
 obtain ⟨ix,vx,⟨hx,lx⟩⟩:=x;obtain ⟨iy,vy,⟨hy,ly⟩⟩:=y;(show _=_;kernel_rfl)
theorem p41_2 (W:World) (x y:Doc):sF W {lp:=true,ol:=true,tl:=[42]} 41 [docA x,docA y] [] 100000 [bf,bf,bf,bf,bf,bf,ee] []=.ok (.ret (bA false) [],[aE 9999994],d6 (decide (x.id=y.id)=false) []):=by
 obtain ⟨ix,vx,⟨hx,lx⟩⟩:=x;obtain ⟨iy,vy,⟨hy,ly⟩⟩:=y;(show _=_;kernel_rfl)
theorem p17_1 (W:World) (A B:List Doc):sF W {lp:=true,ol:=true,tl:=[41]} 17 [.sl 7 (docsA A) [],.sl 7 (docsA B) []] [] 100000 [bf,ee,.loopM [] [] (S17 A B 0) (.exit 0) E17,ee] []=.ok (.ret (bA true) [],[ee],[LZ W [] 17 0 (S17 A B 0) (.exit 0) E17,MatchK [] [] [] {t:=[(0,sL 7 (docsA A)),(1,sL 7 (docsA B)),(5,iA 0)],h:=[]} (S17 A B 0),(!decide ((↑(docsA A).length:Int)=(↑(docsA B).length:Int)))=false]):=kr
theorem p8_0 (W:World) (D:List Doc) (z:Int):sF W {lp:=true,ol:=true,tl:=[26]} 8 [.sl 7 (docsA D) []] [] 100000 [ee,.loopM [] [] (S8 D 0 0) (.exit 0) (E8 D z),bt,bt,bt,ee] []=.ok (.ret (bA true) [],[ee],d3 (decide (150<(↑(docsA D).length:Int))=true) [LZ W [] 8 0 (S8 D 0 0) (.exit 0) (E8 D z),MatchK [] [] [] {t:=[(0,sL 7 (docsA D)),(3,iA 0),(4,iA 0)],h:=[]} (S8 D 0 0)]):=kr
theorem p8_1 (W:World) (D:List Doc) (z:Int):sF W {lp:=true,ol:=true,tl:=[26]} 8 [.sl 7 (docsA D) []] [] 100000 [ee,.loopM [] [] (S8 D 0 0) (.exit 0) (E8 D z),bf,bf,bf,ee] []=.ok (.ret (bA (decide (5000<z))) [],[ee],d3 (decide (150<(↑(docsA D).length:Int))=false) [LZ W [] 8 0 (S8 D 0 0) (.exit 0) (E8 D z),MatchK [] [] [] {t:=[(0,sL 7 (docsA D)),(3,iA 0),(4,iA 0)],h:=[]} (S8 D 0 0)]):=kr
theorem p7_0 (W:World) (e:Int) (h:JH) (l:List JV):sF W {lp:=true,ol:=true,tl:=[26]} 7 [.sl 5 [eV h l] []] [] 100000 [ee,.un,ee,.lg,ee,cR (iA e) [],ee,.un,ee] []=.ok (.ret (bA (decide (5000<IntKind.i64.wrap (0+e)))) [],[aE 9999999],[MZ W 26 [eV h l,iA 5000] [] (.ret (iA e) []),cloHs []]):=kr
theorem b17_1 (W:World) (A B:List Doc) (i:Nat) (bb:Bool) (x y:Doc):sQ W {lp:=true,ol:=true,tl:=[41]} 17 0 [] [0,1,4,5] (S17 A B i) [bt,aE 1,oS (docA x),aE 1,oS (docA y),ee,.lg,ee,cR (bA bb) [],bf,ee]=.ok ((.normal,{t:=[(0,sL 7 (docsA A)),(1,sL 7 (docsA B)),(5,iA (IntKind.i64.wrap ((i:Int)+1)))],h:=[]}),[ee],[(!bb)=false,MZ W 41 [docA x,docA y] [] (.ret (bA bb) []),cloHs [],(docsA B)[(i:Int).toNat]?=some (docA y),(docsA A)[(i:Int).toNat]?=some (docA x),decide ((i:Int)<(↑(docsA A).length:Int))=true]):=by
 obtain ⟨ix,vx,⟨hx,lx⟩⟩:=x;obtain ⟨iy,vy,⟨hy,ly⟩⟩:=y;(show _=_;kernel_rfl)
theorem b17_2 (W:World) (A B:List Doc) (i:Nat):sQ W {lp:=true,ol:=true,tl:=[41]} 17 0 [] [0,1,4,5] (S17 A B i) [bf,ee]=.ok ((.exit 0,{t:=[(0,sL 7 (docsA A)),(1,sL 7 (docsA B)),(5,iA (i:Int))],h:=[]}),[ee],[decide ((i:Int)<(↑(docsA A).length:Int))=false]):=kr
theorem b8_0 (W:World) (D:List Doc) (i:Nat) (z e:Int) (x:Doc):sQ W {lp:=true,ol:=true,tl:=[26]} 8 0 [] [0,3,4] (S8 D z i) [bt,bt,bt,bt,aE 1,oS (docA x),ee,.lg,ee,cR (iA e) [],ee]=.ok ((.normal,{t:=[(0,sL 7 (docsA D)),(3,iA (IntKind.i64.wrap (z+e))),(4,iA (IntKind.i64.wrap ((i:Int)+1)))],h:=[]}),[ee],MZ W 26 [encV x.v,iA 5000] [] (.ret (iA e) [])::cloHs []::((docsA D)[(i:Int).toNat]?=some (docA x))::(decide (z<=5000)=true)::(d3 (decide ((i:Int)<(↑(docsA D).length:Int))=true) [])):=by
 obtain ⟨ix,vx,⟨hx,lx⟩⟩:=x;(show _=_;kernel_rfl)
theorem b8_1 (W:World) (D:List Doc) (i:Nat) (z:Int):sQ W {lp:=true,ol:=true,tl:=[26]} 8 0 [] [0,3,4] (S8 D z i) [bt,bt,bt,bf,ee]=.ok ((.exit 0,{t:=[(0,sL 7 (docsA D)),(3,iA z),(4,iA (i:Int))],h:=[]}),[ee],(decide (z<=5000)=false)::(d3 (decide ((i:Int)<(↑(docsA D).length:Int))=true) [])):=kr
theorem b8_2 (W:World) (D:List Doc) (i:Nat) (z:Int):sQ W {lp:=true,ol:=true,tl:=[26]} 8 0 [] [0,3,4] (S8 D z i) [bf,bf,bf,ee]=.ok ((.exit 0,{t:=[(0,sL 7 (docsA D)),(3,iA z),(4,iA (i:Int))],h:=[]}),[aE 9999999],d3 (decide ((i:Int)<(↑(docsA D).length:Int))=false) []):=kr
theorem zhN {p:Prop} (h:p:=by and_intros<;>first|exact trivial|exact gOK_ph' rfl (by decide) rfl|exact gOK_eq rfl rfl rfl|exact gOK_arr rfl rfl rfl (docs_clo _)|exact gOK_arr rfl rfl hset1 (docs_clo _)|exact gOK_arr rfl rfl hset2 (docs_clo _)):p:=h
theorem zlN {φ ph x y} (h:LeP φ ph x y:=by first|exact .eq rfl rfl|exact .nil rfl|exact .same (by rw [hws];rfl) rfl|exact .same (by rw [hws2];rfl) rfl|exact .eq (congrArg (AV.gs _ 0) hgl) rfl|exact .eq (congrArg (AV.gs _ 0) hgl2) rfl):LeP φ ph x y:=h
theorem ztN {p:Prop} (h:p:=by and_intros<;>first|exact trivial|exact zlN):p:=h
theorem Sn_z1 {kp f ph σ σ'} (h:MatchK kp f ph σ σ':=by exact ⟨by rfl,(by simp only [nilP,nilS,cmS,S17,E17,S8,E8,S16,T16,U16,E16,tOK,List.map_cons,List.map_nil,and_true]<;>exact ztN),(by simp only [nilP,nilS,cmS,S17,E17,S8,E8,S16,T16,U16,E16,hOK,List.map_cons,List.map_nil,and_true]<;>exact zhN),(by simp only [nilP,nilS,cmS,S17,E17,S8,E8,S16,T16,U16,E16,liveT,List.map_cons,List.map_nil,and_true]<;>exact zvS),(by simp only [nilP,nilS,cmS,S17,E17,S8,E8,S16,T16,U16,E16,liveH,List.map_cons,List.map_nil,and_true]<;>exact zvS)⟩):MatchK kp f ph σ σ':=h
theorem Sn_z2 {cs} (h:Holds cs:=by simp only [Holds,cloHs,and_true]<;>and_intros<;>first|assumption|exact docs_clo _|exact decide_eq_true (by omega)|exact decide_eq_false (by omega)|omega|exact trivial|exact .inl trivial|exact .inr ⟨trivial,hgl3⟩|(constructor<;>omega)|exact Sn_z1):Holds cs:=h
theorem call15:callable Tryz.prog 15=true:=kr
theorem call17:callable Tryz.prog 17=true:=kr
theorem call41:callable Tryz.prog 41=true:=kr
theorem call8:callable Tryz.prog 8=true:=kr
theorem call7:callable Tryz.prog 7=true:=kr
section
variable (W:World)
end
end Go.Ac

namespace Go.Ac
open Go
set_option maxRecDepth 4000
end Go.Ac

namespace Go.Ac
open Go
set_option maxRecDepth 4000
end Go.Ac

namespace Go.Ac
open Go
set_option maxRecDepth 4000
mutual
theorem parts_cnt:∀ (v:JV) (m:Int),partsV v m<=m->(cntV v:Int)=partsV v m
 | .mk h l,m,hm=>by
  rw [partsV] at hm ⊢
  rw [cntV]
  have:=partsL_cnt l m (1+h.names.length) hm
  omega
theorem partsL_cnt:∀ (l:List JV) (m n:Int),partsL l m n<=m->(cntVs l:Int)+n=partsL l m n
 | [],m,n,hm=>by simp [partsL,cntVs]
 | x::l,m,n,hm=>by
  rw [partsL] at hm ⊢
  split at hm
  ·rename_i e
   rw [if_pos e]
   have h2:=partsL_cnt l m _ hm
   have h0:n+partsV x (m - n)<=m:=by have:(0:Int)<=cntVs l:=Int.natCast_nonneg _;omega
   have h1:=parts_cnt x (m - n) (by omega)
   rw [cntVs];omega
  ·rename_i e;exact absurd hm e
end
end Go.Ac

namespace Go.Ac
open Go Go.Proofs
set_option maxRecDepth 10000
set_option maxHeartbeats 1000000
section
variable (W:World)
theorem same41 (x:Doc) (hx:okV x.v):Pure Tryz.prog W 41 [docA x,docA x] (bA true):=by
 have h1:=mut_of_pure (by simp [cloL,encV_clo]) (equal67 W _ x.v x.v (Nat.lt_succ_self _) hx)
 rw [eqV_true] at h1
 have c1:decide (x.ver=x.ver)=true:=decide_eq_true rfl
 have c2:decide (x.id=x.id)=true:=decide_eq_true rfl
 exact pure_of_mut rfl (mut_of_sfun mixedz call41 rfl (p41_0 W true x x) Sn_z2)
theorem docA_clo (x:Doc):(docA x).clo=true:=by
 have:=docs_clo [x]
 simpa [docsA,cloL] using this
theorem docs17 (A:List Doc) (hA:∀ x ∈ A,okV x.v) (hl:A.length<=2 ^ 40):Pure Tryz.prog W 17 [.sl 7 (docsA A) [],.sl 7 (docsA A) []] (bA true):=by
 have hAl:=docs_len A
 have loop:∀ (k i:Nat),A.length - i=k->i<=A.length->LoopC Tryz.prog W [] (nslots Tryz.prog 17) (loopOf Tryz.prog 17 0) (S17 A A i) (.exit 0) E17:=by
  intro k
  induction k with
  | zero =>
   intro i hk hi
   have e:decide ((i:Int)<((docsA A).length:Int))=false:=by rw [hAl];exact decide_eq_false (by omega)
   exact loop_last (by simp) (body_of_sbodyK mixedz (b17_2 W A A i) Sn_z2 [] [] Sn_z1)
  | succ k ih =>
   intro i hk hi
   obtain ⟨x,hx⟩:=getOf (l:=A) (i:=i) (by omega)
   have e:decide ((i:Int)<((docsA A).length:Int))=true:=by rw [hAl];exact decide_eq_true (by omega)
   have hws:IntKind.i64.wrap ((i:Int)+1)=((i+1:Nat):Int):=wrap_succ (by omega)
   have g1:=docs_at hx
   rw [Nat.zero_add] at g1
   have h1:=mut_of_pure (by simp [cloL,docA_clo]) (same41 W x (hA x (List.mem_of_getElem? hx)))
   have c1:(!true)=false:=rfl
   have nx:=ih (i+1) (by omega) (by omega)
   exact loop_next (body_of_sbodyK mixedz (b17_1 W A A i true x x) (by clear nx ih;exact Sn_z2) [] [] (σ3:=S17 A A (i+1)) (by clear nx ih;exact Sn_z1)) nx
 have hlp:=loop A.length 0 (by omega) (by omega)
 have c1:(!decide (((docsA A).length:Int)=((docsA A).length:Int)))=false:=by simp
 exact pure_of_mut rfl (mut_of_sfun mixedz call17 rfl (p17_1 W A A) Sn_z2)
theorem large7 (v:JV) (hok:okV v):∃ g:Bool,Pure Tryz.prog W 7 [.sl 5 [encV v] []] (bA g)/\(g=false->cntV v<=5000):=by
 have h1:=mut_of_pure (by simp [cloL,encV_clo,AV.clo,iA]) (parts W v 5000 hok (by omega) (by omega))
 have h2:=partsV_bd v 5000 hok (by omega)
 obtain ⟨h,l⟩:=v
 have hw:IntKind.i64.wrap (0+partsV (.mk h l) 5000)=partsV (.mk h l) 5000:=by rw [Int.zero_add];exact IntWalk.i64_in _ (by omega)
 refine ⟨_,pure_of_mut rfl (mut_of_sfun mixedz call7 rfl (p7_0 W (partsV (.mk h l) 5000) h l) Sn_z2),fun hg=>?_⟩
 rw [hw,decide_eq_false_iff_not] at hg
 have:=parts_cnt (.mk h l) 5000 (by omega)
 omega
end
end Go.Ac

namespace Go.Ac
open Go Go.Proofs
set_option maxRecDepth 10000
set_option maxHeartbeats 2000000
mutual
def tnV:JV->Prop
 | .mk h l=>h.text.length<=2 ^ 50/\(∀ s ∈ h.names,s.length<=2 ^ 50)/\tnVs l
def tnVs:List JV->Prop
 | []=>True
 | j::l=>tnV j/\tnVs l
end
theorem tnVs_mem:∀ {l:List JV},tnVs l->∀ x ∈ l,tnV x
 | [],_,x,hx=>by cases hx
 | j::l,h,x,hx=>by
  rcases List.mem_cons.1 hx with rfl|hx
  ·exact h.1
  ·exact tnVs_mem h.2 x hx
section
variable (W:World)
variable (h:JH) (l:List JV) (h2:JH) (l2:List JV)
end
end Go.Ac

namespace Go.Ac
open Go Go.Proofs
set_option maxRecDepth 10000
set_option maxHeartbeats 1000000
end Go.Ac

namespace Go.Ac
open Go Go.Proofs
set_option maxRecDepth 10000
set_option maxHeartbeats 1000000
end Go.Ac

namespace Go.Ac
open Go Go.Proofs
set_option maxRecDepth 10000
set_option maxHeartbeats 1000010
namespace SI
def arrE {α:Type} (E:α->AV) (D:List α):List (Nat×GE):=[(100001,.arr 25 5 (D.map E) .own)]
section
variable {α:Type} (E:α->AV) (N:Nat) (D:List α)
end
section
variable {α:Type}
end
structure SrtI (W:World) {α:Type} (E:α->AV) (lt:α->α->Bool) (N:Nat):Prop where
 cl:∀ D:List α,cloL (D.map E)=true
 less:∀ (D:List α) (i j:Nat),D.length=N->i<N->j<N->MutC Tryz.prog W 167 [.gs 100001 0 N,iA i,iA j] (arrE E D) (.ret (bA (ltAt lt D i j)) (arrE E D))
 swap:∀ (D:List α) (i j:Nat),D.length=N->i<N->j<N->MutC Tryz.prog W 168 [.gs 100001 0 N,iA i,iA j] (arrE E D) (.ret (.tup []) (arrE E (swapL D i j)))
 len:∀ D:List α,D.length=N->MutC Tryz.prog W 166 [.gs 100001 0 N] (arrE E D) (.ret (iA N) (arrE E D))
section
variable (W:World) {α:Type} {E:α->AV} {N:Nat} {lt:α->α->Bool} (hI:SrtI W E lt N)
include hI
omit hI
include hI
omit hI
include hI
end
end SI
end Go.Ac

namespace Go.Ac
open Go
section
variable {α:Type}
structure Cmp3 (f:α->α->Int):Prop where
 rng:∀ a b,f a b=-1\/f a b=0\/f a b=1
 sym:∀ a b,f b a=- f a b
 tr:∀ a b c,f a b<=0->f b c<=0->f a c<=0
theorem Cmp3.swo {f:α->α->Int} (h:Cmp3 f):SWO fun a b=>decide (f a b<0) :=
 ⟨fun x y q=>by
  have:=h.sym x y
  simp only [decide_eq_true_eq,decide_eq_false_iff_not] at q ⊢;omega,
  fun x y z q1 q2=>by
   simp only [decide_eq_false_iff_not] at q1 q2 ⊢
   have s1:=h.sym x y;have s2:=h.sym y z;have s3:=h.sym x z
   have:=h.tr z y x (by omega) (by omega)
   omega⟩
theorem Cmp3.lt_le {f:α->α->Int} (h:Cmp3 f) {a b c:α} (h1:f a b<0) (h2:f b c<=0):f a c<0:=by
 have:=h.tr a b c (by omega) h2
 rcases Int.lt_or_eq_of_le this with q|q
 ·exact q
 ·have s1:=h.sym a c;have s2:=h.sym a b;have s3:=h.sym b c
  have:=h.tr b c a h2 (by omega)
  omega
theorem Cmp3.le_lt {f:α->α->Int} (h:Cmp3 f) {a b c:α} (h1:f a b<=0) (h2:f b c<0):f a c<0:=by
 have:=h.tr a b c h1 (by omega)
 rcases Int.lt_or_eq_of_le this with q|q
 ·exact q
 ·have s1:=h.sym a c;have s2:=h.sym a b;have s3:=h.sym b c
  have:=h.tr c a b (by omega) h1
  omega
theorem Cmp3.eq_tr {f:α->α->Int} (h:Cmp3 f) {a b c:α} (h1:f a b=0) (h2:f b c=0):f a c=0:=by
 have t1:=h.tr a b c (by omega) (by omega)
 have s1:=h.sym a b;have s2:=h.sym b c;have s3:=h.sym a c
 have t2:=h.tr c b a (by omega) (by omega)
 omega
theorem cmp_lexD {f g:α->α->Int} (hf:Cmp3 f) (g1:∀ a b,f a b=0->g a b=-1\/g a b=0\/g a b=1) (g2:∀ a b,f a b=0->g b a=- g a b) (g3:∀ a b c,f a b=0->f b c=0->g a b<=0->g b c<=0->g a c<=0) :
 Cmp3 fun a b=>if f a b=0 then g a b else f a b:=by
 refine ⟨fun a b=>?_,fun a b=>?_,fun a b c h1 h2=>?_⟩
 ·split
  ·rename_i e;exact g1 a b e
  ·exact hf.rng a b
 ·have s:=hf.sym a b
  by_cases e:f a b=0
  ·rw [if_pos e,if_pos (by omega),g2 a b e]
  ·rw [if_neg e,if_neg (by omega),s]
 ·by_cases e1:f a b=0
  ·rw [if_pos e1] at h1
   by_cases e2:f b c=0
   ·rw [if_pos e2] at h2
    rw [if_pos (hf.eq_tr e1 e2)]
    exact g3 a b c e1 e2 h1 h2
   ·rw [if_neg e2] at h2
    have:=hf.le_lt (a:=a) (b:=b) (c:=c) (by omega) (by omega)
    rw [if_neg (by omega)];omega
  ·rw [if_neg e1] at h1
   have h2':f b c<=0:=by
    by_cases e2:f b c=0
    ·omega
    ·rw [if_neg e2] at h2;exact h2
   have:=hf.lt_le (a:=a) (b:=b) (c:=c) (by omega) h2'
   rw [if_neg (by omega)];omega
theorem cmp_lex {f g:α->α->Int} (hf:Cmp3 f) (hg:Cmp3 g):Cmp3 fun a b=>if f a b=0 then g a b else f a b :=
 cmp_lexD hf (fun a b _=>hg.rng a b) (fun a b _=>hg.sym a b) (fun a b c _ _=>hg.tr a b c)
theorem cmp_key {β:Type} {f:β->β->Int} (hf:Cmp3 f) (k:α->β):Cmp3 fun a b=>f (k a) (k b):=⟨fun a b=>hf.rng _ _,fun a b=>hf.sym _ _,fun a b c=>hf.tr _ _ _⟩
theorem cmp_neg {f:α->α->Int} (hf:Cmp3 f):Cmp3 fun a b=>- f a b:=⟨fun a b=>by have:=hf.rng a b;omega,fun a b=>by have:=hf.sym a b;omega,fun a b c h1 h2=>by
 have s1:=hf.sym a b;have s2:=hf.sym b c;have s3:=hf.sym a c
 have:=hf.tr c b a (by omega) (by omega);omega⟩
theorem cmp_zero:Cmp3 fun _ _:α=>0:=⟨fun _ _=>.inr (.inl rfl),fun _ _=>rfl,fun _ _ _ _ _=>Int.le_refl _⟩
end
theorem cmpI_cmp:Cmp3 cmpI:=by
 have h:∀ a b,(a<b/\cmpI a b=-1)\/(a=b/\cmpI a b=0)\/(b<a/\cmpI a b=1):=fun a b=>by
  unfold cmpI
  by_cases h1:a<b
  ·exact .inl ⟨h1,by rw [if_pos h1]⟩
  ·by_cases h2:b<a
   ·exact .inr (.inr ⟨h2,by rw [if_neg h1,if_pos h2]⟩)
   ·exact .inr (.inl ⟨by omega,by rw [if_neg h1,if_neg h2]⟩)
 refine ⟨fun a b=>?_,fun a b=>?_,fun a b c=>?_⟩
 ·have:=h a b;omega
 ·have:=h a b;have:=h b a;omega
 ·have:=h a b;have:=h b c;have:=h a c;omega
theorem cmpBy_cons (x y:UInt8) (a b:List UInt8):Lib.compareBytes (x::a) (y::b)=if cmpI x.toNat y.toNat=0 then Lib.compareBytes a b else cmpI x.toNat y.toNat:=by
 rw [Lib.compareBytes]
 simp only [UInt8.lt_iff_toNat_lt]
 unfold cmpI
 by_cases h1:x.toNat<y.toNat
 ·rw [if_pos h1,if_pos (show (x.toNat:Int)<(y.toNat:Int) by omega),if_neg (by omega)]
 ·rw [if_neg h1,if_neg (show ¬ (x.toNat:Int)<(y.toNat:Int) by omega)]
  by_cases h2:y.toNat<x.toNat
  ·rw [if_pos h2,if_pos (show (y.toNat:Int)<(x.toNat:Int) by omega),if_neg (by omega)]
  ·rw [if_neg h2,if_neg (show ¬ (y.toNat:Int)<(x.toNat:Int) by omega),if_pos rfl]
section
variable {α:Type} {f:α->α->Int}
def lexL (f:α->α->Int):List α->List α->Int
 | [],[]=>0
 | [],_::_=>-1
 | _::_,[]=>1
 | a::l,b::k=>if f a b=0 then lexL f l k else f a b
theorem lexL_rng (hf:Cmp3 f):∀ l k:List α,lexL f l k=-1\/lexL f l k=0\/lexL f l k=1
 | [],[]=>.inr (.inl rfl)
 | [],_::_=>.inl rfl
 | _::_,[]=>.inr (.inr rfl)
 | a::l,b::k=>by
  rw [lexL]
  split
  ·exact lexL_rng hf l k
  ·exact hf.rng a b
theorem lexL_sym (hf:Cmp3 f):∀ l k:List α,lexL f k l=- lexL f l k
 | [],[]=>rfl
 | [],_::_=>rfl
 | _::_,[]=>rfl
 | a::l,b::k=>by
  have s:=hf.sym a b
  rw [lexL,lexL]
  by_cases e:f a b=0
  ·rw [if_pos e,if_pos (by omega)];exact lexL_sym hf l k
  ·rw [if_neg e,if_neg (by omega)];exact s
theorem lexL_tr (hf:Cmp3 f):∀ l k m:List α,lexL f l k<=0->lexL f k m<=0->lexL f l m<=0
 | [],_,[],_,_=>Int.le_refl _
 | [],_,_::_,_,_=>by simp [lexL]
 | _::_,[],_,h,_=>by simp [lexL] at h
 | _::_,_::_,[],_,h=>by simp [lexL] at h
 | a::l,b::k,c::m,h1,h2=>by
  rw [lexL] at h1 h2 ⊢
  by_cases e1:f a b=0
  ·rw [if_pos e1] at h1
   by_cases e2:f b c=0
   ·rw [if_pos e2] at h2
    rw [if_pos (hf.eq_tr e1 e2)]
    exact lexL_tr hf l k m h1 h2
   ·rw [if_neg e2] at h2
    have:=hf.le_lt (a:=a) (b:=b) (c:=c) (by omega) (by omega)
    rw [if_neg (by omega)];omega
  ·rw [if_neg e1] at h1
   have h2':f b c<=0:=by
    by_cases e2:f b c=0
    ·omega
    ·rw [if_neg e2] at h2;exact h2
   have:=hf.lt_le (a:=a) (b:=b) (c:=c) (by omega) h2'
   rw [if_neg (by omega)];omega
theorem lexL_cmp (hf:Cmp3 f):Cmp3 (lexL f):=⟨lexL_rng hf,lexL_sym hf,lexL_tr hf⟩
end
theorem cmpBy_lex:∀ a b:List UInt8,Lib.compareBytes a b=lexL (fun x y:UInt8=>cmpI x.toNat y.toNat) a b
 | [],[]=>by simp [Lib.compareBytes,lexL]
 | [],_::_=>by simp [Lib.compareBytes,lexL]
 | _::_,[]=>by simp [Lib.compareBytes,lexL]
 | x::a,y::b=>by rw [cmpBy_cons,lexL,cmpBy_lex a b]
theorem cmpBy_cmp:Cmp3 Lib.compareBytes:=by
 have:=lexL_cmp (cmp_key cmpI_cmp (fun x:UInt8=>(x.toNat:Int)))
 rw [show Lib.compareBytes=lexL (fun x y:UInt8=>cmpI x.toNat y.toNat) from funext fun a=>funext fun b=>cmpBy_lex a b]
 exact this
theorem cmpLs_lex (f:JV->JV->Int):∀ l k:List JV,cmpLs f l k=lexL f l k
 | [],[]=>rfl
 | [],_::_=>rfl
 | _::_,[]=>rfl
 | a::l,b::k=>by rw [cmpLs,lexL,cmpLs_lex f l k]
theorem cmpMs_lex (f:JV->JV->Int):∀ l k:List (List UInt8×JV),cmpMs f l k=lexL (fun p q=>if Lib.compareBytes p.1 q.1=0 then f p.2 q.2 else Lib.compareBytes p.1 q.1) l k
 | [],[]=>rfl
 | [],_::_=>rfl
 | _::_,[]=>rfl
 | (x,a)::l,(y,b)::k=>by
  rw [cmpMs,lexL,cmpMs_lex f l k]
  dsimp only
  by_cases e:Lib.compareBytes x y=0
  ·rw [if_pos e,if_pos e]
  ·rw [if_neg e,if_neg e,if_neg e]
theorem rank_eq {a b:Int} (h:cmpI (rankV a) (rankV b)=0):(a=3 ↔ b=3)/\(a=4 ↔ b=4)/\(a=5 ↔ b=5)/\(a=6 ↔ b=6):=by
 have e:rankV a=rankV b:=by
  unfold cmpI at h
  split at h
  ·omega
  ·split at h<;>omega
 have r:∀ a:Int,(a=0/\rankV a=0)\/(a=3/\rankV a=1)\/(a=4/\rankV a=2)\/(a=6/\rankV a=3)\/(a=5/\rankV a=4)\/(a=1/\rankV a=5)\/(a=2/\rankV a=6)\/(rankV a=-1/\a ≠ 3/\a ≠ 4/\a ≠ 5/\a ≠ 6):=fun a=>by
  by_cases h0:a=0
  ·subst h0;exact .inl ⟨rfl,rfl⟩
  by_cases h3:a=3
  ·subst h3;exact .inr (.inl ⟨rfl,rfl⟩)
  by_cases h4:a=4
  ·subst h4;exact .inr (.inr (.inl ⟨rfl,rfl⟩))
  by_cases h6:a=6
  ·subst h6;exact .inr (.inr (.inr (.inl ⟨rfl,rfl⟩)))
  by_cases h5:a=5
  ·subst h5;exact .inr (.inr (.inr (.inr (.inl ⟨rfl,rfl⟩))))
  by_cases h1:a=1
  ·subst h1;exact .inr (.inr (.inr (.inr (.inr (.inl ⟨rfl,rfl⟩)))))
  by_cases h2:a=2
  ·subst h2;exact .inr (.inr (.inr (.inr (.inr (.inr (.inl ⟨rfl,rfl⟩))))))
  refine .inr (.inr (.inr (.inr (.inr (.inr (.inr ⟨?_,h3,h4,h5,h6⟩))))))
  unfold rankV
  simp [h0,h1,h2,h3,h4,h5,h6]
 have ra:=r a
 have rb:=r b
 omega
theorem cmpF_cmp:∀ n:Nat,Cmp3 (cmpF n)
 | 0=>cmp_zero
 | n+1=>by
  have ih:=cmpF_cmp n
  have hL:=lexL_cmp ih
  have hM:=lexL_cmp (cmp_lex (cmp_key cmpBy_cmp (fun p:List UInt8×JV=>p.1)) (cmp_key ih (fun p:List UInt8×JV=>p.2)))
  have hr:=cmp_key cmpI_cmp (fun a:JV=>rankV a.kind)
  refine cmp_lexD (f:=fun a b:JV=>cmpI (rankV a.kind) (rankV b.kind)) (g:=fun a b:JV=>if a.kind=3 then cmpI a.int b.int else if a.kind=4 then Lib.compareBytes a.text b.text else if a.kind=5 then cmpLs (cmpF n) a.items b.items else if a.kind=6 then cmpMs (cmpF n) a.mems b.mems else 0) hr (fun a b e=>?_) (fun a b e=>?_) (fun a b c e1 e2 h1 h2=>?_)
  ·split
   ·exact cmpI_cmp.rng _ _
   ·split
    ·exact cmpBy_cmp.rng _ _
    ·split
     ·rw [cmpLs_lex];exact hL.rng _ _
     ·split
      ·rw [cmpMs_lex];exact hM.rng _ _
      ·exact .inr (.inl rfl)
  ·obtain ⟨k3,k4,k5,k6⟩:=rank_eq e
   by_cases q3:a.kind=3
   ·rw [if_pos q3,if_pos (k3.1 q3)];exact cmpI_cmp.sym _ _
   rw [if_neg q3,if_neg fun q=>q3 (k3.2 q)]
   by_cases q4:a.kind=4
   ·rw [if_pos q4,if_pos (k4.1 q4)];exact cmpBy_cmp.sym _ _
   rw [if_neg q4,if_neg fun q=>q4 (k4.2 q)]
   by_cases q5:a.kind=5
   ·rw [if_pos q5,if_pos (k5.1 q5),cmpLs_lex,cmpLs_lex];exact hL.sym _ _
   rw [if_neg q5,if_neg fun q=>q5 (k5.2 q)]
   by_cases q6:a.kind=6
   ·rw [if_pos q6,if_pos (k6.1 q6),cmpMs_lex,cmpMs_lex];exact hM.sym _ _
   rw [if_neg q6,if_neg fun q=>q6 (k6.2 q)]
   rfl
  ·obtain ⟨k3,k4,k5,k6⟩:=rank_eq e1
   by_cases q3:a.kind=3
   ·rw [if_pos q3] at h1 ⊢;rw [if_pos (k3.1 q3)] at h2;exact cmpI_cmp.tr _ _ _ h1 h2
   rw [if_neg q3] at h1 ⊢;rw [if_neg fun q=>q3 (k3.2 q)] at h2
   by_cases q4:a.kind=4
   ·rw [if_pos q4] at h1 ⊢;rw [if_pos (k4.1 q4)] at h2;exact cmpBy_cmp.tr _ _ _ h1 h2
   rw [if_neg q4] at h1 ⊢;rw [if_neg fun q=>q4 (k4.2 q)] at h2
   by_cases q5:a.kind=5
   ·rw [if_pos q5,cmpLs_lex] at h1 ⊢;rw [if_pos (k5.1 q5),cmpLs_lex] at h2;exact hL.tr _ _ _ h1 h2
   rw [if_neg q5] at h1 ⊢;rw [if_neg fun q=>q5 (k5.2 q)] at h2
   by_cases q6:a.kind=6
   ·rw [if_pos q6,cmpMs_lex] at h1 ⊢;rw [if_pos (k6.1 q6),cmpMs_lex] at h2;exact hM.tr _ _ _ h1 h2
   rw [if_neg q6]
   exact Int.le_refl _
end Go.Ac

namespace Go.Ac
open Go Go.Proofs
set_option maxRecDepth 10000
set_option maxHeartbeats 1000000
namespace Dd
def openV (l:List JV):List JV:=l.flatMap fun v=>if v.kind=5/\v.items ≠ [] then v.items else [v]
def zA:AV:=.agg [iA 0,iA 0,.str [],.val (.slice none 0 0),.val (.slice none 0 0)]
def S44 (l out:List JV) (i:Nat):AS:=⟨[(3,.gs 100000 0 out.length),(6,.sl 5 (encVs l) []),(7,iA (encVs l).length),(8,iA i)],[(100000,.arr 25 5 (encVs out) .own)]⟩
def E44 (out:List JV):AS:=⟨[(3,.gs 100000 0 out.length)],[(100000,.arr 25 5 (encVs out) .own)]⟩
def S52 (l out:List JV) (i:Nat):AS:=⟨[(5,.gs 100000 0 out.length),(6,.sl 5 (encVs l) []),(7,iA i)],[(100000,.arr 25 5 (encVs out) .own)]⟩
def E52 (out:List JV):AS:=⟨[(5,.gs 100000 0 out.length)],[(100000,.arr 25 5 (encVs out) .own)]⟩
def S81 (l:List JV) (v:JV) (i:Nat):AS:=⟨[(0,.sl 5 (encVs l) []),(1,.fn (.func 49) [] [.ip (encV v) 0]),(7,iA (encVs l).length),(8,iA i)],[]⟩
def E81:AS:=⟨[],[]⟩
def S51 (l:List JV) (i:Nat):AS:=⟨[(3,.gs 100001 0 l.length),(10,.gs 100000 0 l.length),(11,iA l.length),(12,iA i)],[(100000,.arr 25 5 (encVs l) .own),(100001,.arr 25 5 (encVs (l.take i)++List.replicate (l.length - i) zA) .own)]⟩
def E51 (l:List JV):AS:=⟨[(3,.gs 100001 0 l.length)],[(100000,.arr 25 5 (encVs l) .own),(100001,.arr 25 5 (encVs l) .own)]⟩
def S53 (m:List JV) (v:JV) (at_ i:Nat):AS:=⟨[(0,.sl 5 (encVs m) []),(3,.gp 100000 0),(5,iA at_),(6,iA i)],[(100000,.box (encV v) .own)]⟩
def E53 (m:List JV) (v:JV) (at_:Nat):AS:=⟨[(0,.sl 5 (encVs m) []),(3,.gp 100000 0),(5,iA at_)],[(100000,.box (encV v) .own)]⟩
def S22 (p:List (List UInt8)) (D:List Doc) (out:List JV) (i:Nat):AS:=⟨[(1,.sl 1 (p.map AV.str) []),(5,.gs 100000 0 out.length),(10,.sl 7 (docsA D) []),(11,iA (docsA D).length),(12,iA i)],[(100000,.arr 25 5 (encVs out) .own)]⟩
def T22 (p:List (List UInt8)) (D:List Doc) (c out:List JV) (i k:Nat):AS:=⟨[(1,.sl 1 (p.map AV.str) []),(5,.gs 100000 0 out.length),(10,.sl 7 (docsA D) []),(11,iA (docsA D).length),(12,iA i),(20,.sl 5 (encVs c) []),(21,iA (encVs c).length),(22,iA k)],[(100000,.arr 25 5 (encVs out) .own)]⟩
def E22 (out:List JV):AS:=⟨[(5,.gs 100000 0 out.length)],[(100000,.arr 25 5 (encVs out) .own)]⟩
def S23 (p:List (List UInt8)) (D:List Doc) (m:List JV) (i:Nat):AS:=⟨[(0,.sl 7 (docsA D) []),(1,.sl 1 (p.map AV.str) []),(5,.sl 5 (encVs m) []),(6,iA i)],[]⟩
def T23 (p:List (List UInt8)) (D:List Doc) (c m:List JV) (i k:Nat):AS:=⟨[(0,.sl 7 (docsA D) []),(1,.sl 1 (p.map AV.str) []),(5,.sl 5 (encVs m) []),(6,iA i),(7,.sl 5 (encVs c) []),(8,iA k)],[]⟩
def E23 (m:List JV):AS:=⟨[(5,.sl 5 (encVs m) [])],[]⟩
def S24 (A B:List JV) (i:Nat):AS:=⟨[(0,.sl 5 (encVs A) []),(1,.sl 5 (encVs B) []),(5,iA i)],[]⟩
def BEH:AV:=.str [98,101,104,105,110,100]
def Z6 (D:List Doc) (p:List (List UInt8)):AS:=⟨[(0,.sl 7 (docsA D) []),(1,.sl 1 (p.map AV.str) []),(5,.sl 7 (docsA D) []),(6,.sl 1 (p.map AV.str++[BEH]) [])],[]⟩
def L6a (B R:List JV) (els:List AV) (n i:Nat):AS:=⟨[(7,.gs 100010 0 n),(8,.sl 5 (encVs B) []),(9,.sl 5 (encVs R) []),(10,iA i)],[(100010,.arr 25 5 els .own)]⟩
def L6e (B R:List JV) (els:List AV) (n:Nat):AS:=⟨[(7,.gs 100010 0 n),(8,.sl 5 (encVs B) []),(9,.sl 5 (encVs R) [])],[(100010,.arr 25 5 els .own)]⟩
def L6b (B R:List JV) (els:List AV) (i:Nat):AS:=⟨[(7,.gs 100010 0 els.length),(8,.sl 5 (encVs B) []),(9,.sl 5 (encVs R) []),(11,iA i)],[(100010,.arr 25 5 els .own)]⟩
def L6f (B R:List JV):AS:=⟨[(8,.sl 5 (encVs B) []),(9,.sl 5 (encVs R) [])],[]⟩
theorem p44_0 (W:World) (l out:List JV):sF W {lp:=true,ol:=true,fin:=9,tl:=[]} 44 [.sl 5 (encVs l) []] [] 100000 [ee,.loopM [] [(100000,5)] (S44 l [] 0) (.exit 0) (E44 out),ee,.fin [] [] (.gs 100000 0 out.length) [(100000,.arr 25 5 (encVs out) .own)],ee] []=.ok (.ret (.gs 100000 0 out.length) [(100000,.arr 25 5 (encVs out) .own)],[ee],[MatchK [] [] [] {t:=[(0,.gs 100000 0 out.length)],h:=[(100000,.arr 25 5 (encVs out) .own)]} {t:=[(0,.gs 100000 0 out.length)],h:=[(100000,.arr 25 5 (encVs out) .own)]},LZ W [] 44 0 (S44 l [] 0) (.exit 0) (E44 out),MatchK [] [] [(100000,5)] {t:=[(3,.val (Value.slice none 0 0)),(6,sL 5 (encVs l)),(7,iA (↑(encVs l).length:Int)),(8,iA 0)],h:=[]} (S44 l [] 0)]):=kr
theorem b44_0 (W:World) (l out:List JV) (hx:JH) (lx:List JV) (i:Nat):sQ W {lp:=true,ol:=true,tl:=[]} 44 0 [] [3,6,7,8] (S44 l out i) [bt,aE 1,oS (eV hx lx),bt,bt,bt,bt,bt,bt,aE 1,.lg,.lg,ee]=.ok ((.normal,{t:=[(3,.gs 100002 0 (out.length+(encVs lx).length)),(6,sL 5 (encVs l)),(7,iA (↑(encVs l).length:Int)),(8,iA (IntKind.i64.wrap ((i:Int)+1)))],h:=[(100000,.dead),(100001,gB (eV hx lx)),(100002,.arr 25 5 (List.take out.length (encVs out)++encVs lx) .own)]}),[ee],((out.length+(encVs lx).length) * 80<=140737488355328)::((St.own=St.own\/St.own=St.shr/\out.length=(encVs out).length)/\out.length<=(encVs out).length)::(decide (0<(↑(encVs lx).length:Int))=true)::(decide (hx.kind=5)=true)::(d4 (decide (hx.kind=5)=true) [(encVs l)[(i:Int).toNat]?=some (eV hx lx),decide ((i:Int)<(↑(encVs l).length:Int))=true])):=kr
theorem b44_1 (W:World) (l out:List JV) (hx:JH) (lx:List JV) (i:Nat):sQ W {lp:=true,ol:=true,tl:=[]} 44 0 [] [3,6,7,8] (S44 l out i) [bt,aE 1,oS (eV hx lx),bt,bt,bt,bt,bt,bf,aE 1,.lg,.lg,ee]=.ok ((.normal,{t:=[(3,.gs 100003 0 (out.length+[eV hx lx].length)),(6,sL 5 (encVs l)),(7,iA (↑(encVs l).length:Int)),(8,iA (IntKind.i64.wrap ((i:Int)+1)))],h:=[(100000,.dead),(100001,gB (eV hx lx)),(100002,.arr 25 5 [eV hx lx] .own),(100003,.arr 25 5 (List.take out.length (encVs out)++[eV hx lx]) .own)]}),[ee],((out.length+[eV hx lx].length) * 80<=140737488355328)::((St.own=St.own\/St.own=St.shr/\out.length=(encVs out).length)/\out.length<=(encVs out).length)::(decide (0<(↑(encVs lx).length:Int))=false)::(decide (hx.kind=5)=true)::(d4 (decide (hx.kind=5)=true) [(encVs l)[(i:Int).toNat]?=some (eV hx lx),decide ((i:Int)<(↑(encVs l).length:Int))=true])):=kr
theorem b44_2 (W:World) (l out:List JV) (hx:JH) (lx:List JV) (i:Nat):sQ W {lp:=true,ol:=true,tl:=[]} 44 0 [] [3,6,7,8] (S44 l out i) [bt,aE 1,oS (eV hx lx),bf,bf,bf,bf,bf,aE 2,.lg,.lg,ee]=.ok ((.normal,{t:=[(3,.gs 100003 0 (out.length+[eV hx lx].length)),(6,sL 5 (encVs l)),(7,iA (↑(encVs l).length:Int)),(8,iA (IntKind.i64.wrap ((i:Int)+1)))],h:=[(100000,.dead),(100001,gB (eV hx lx)),(100002,.arr 25 5 [eV hx lx] .own),(100003,.arr 25 5 (List.take out.length (encVs out)++[eV hx lx]) .own)]}),[ee],((out.length+[eV hx lx].length) * 80<=140737488355328)::((St.own=St.own\/St.own=St.shr/\out.length=(encVs out).length)/\out.length<=(encVs out).length)::(decide (hx.kind=5)=false)::(d4 (decide (hx.kind=5)=false) [(encVs l)[(i:Int).toNat]?=some (eV hx lx),decide ((i:Int)<(↑(encVs l).length:Int))=true])):=kr
theorem b44_3 (W:World) (l out:List JV) (i:Nat):sQ W {lp:=true,ol:=true,tl:=[]} 44 0 [] [3,6,7,8] (S44 l out i) [bf,ee]=.ok ((.exit 0,{t:=[(3,.gs 100000 0 out.length),(6,sL 5 (encVs l)),(7,iA (↑(encVs l).length:Int)),(8,iA (i:Int))],h:=[(100000,.arr 25 5 (encVs out) .own)]}),[ee],[decide ((i:Int)<(↑(encVs l).length:Int))=false]):=kr
theorem zhD {p:Prop} (h:p:=by and_intros<;>first|exact trivial|exact gOK_ph' rfl (by decide) (by first|rfl|(simp [encVs];done))|exact gOK_eq rfl rfl rfl|exact gOK_arr rfl rfl rfl (encVs_clo _)|exact gOK_arr rfl rfl hset (encVs_clo _)|exact gOK_arr rfl rfl hset hclo|(refine gOK_box rfl rfl rfl ?_;exact zp)):p:=h
theorem zlD {φ ph x y} (h:LeP φ ph x y:=by first|exact .eq rfl rfl|exact .nil rfl|exact .nilS|exact .same rfl (encV_clo _)|exact .same rfl rfl|exact .same (by rw [hws];rfl) rfl|exact .same (by rw [hws2];rfl) rfl|exact .eq (congrArg (AV.gs _ 0) hgl) rfl|exact .same (by rw [encVs_len];rfl) rfl):LeP φ ph x y:=h
theorem ztD {p:Prop} (h:p:=by and_intros<;>first|exact trivial|exact zlD):p:=h
theorem Id_z1 {kp f ph σ σ'} (h:MatchK kp f ph σ σ':=by exact ⟨by rfl,(by simp only [zA,S44,E44,S52,E52,S81,E81,S51,E51,S53,E53,S22,T22,E22,S23,T23,E23,S24,Z6,L6a,L6e,L6b,L6f,tOK,List.map_cons,List.map_nil,and_true]<;>exact ztD),(by simp only [zA,S44,E44,S52,E52,S81,E81,S51,E51,S53,E53,S22,T22,E22,S23,T23,E23,S24,Z6,L6a,L6e,L6b,L6f,hOK,List.map_cons,List.map_nil,and_true]<;>exact zhD),(by simp only [zA,S44,E44,S52,E52,S81,E81,S51,E51,S53,E53,S22,T22,E22,S23,T23,E23,S24,Z6,L6a,L6e,L6b,L6f,liveT,List.map_cons,List.map_nil,and_true]<;>exact zv),(by simp only [zA,S44,E44,S52,E52,S81,E81,S51,E51,S53,E53,S22,T22,E22,S23,T23,E23,S24,Z6,L6a,L6e,L6b,L6f,liveH,List.map_cons,List.map_nil,and_true]<;>exact zv)⟩):MatchK kp f ph σ σ':=h
theorem Id_z2 {cs} (h:Holds cs:=by simp only [Holds,cloHs,and_true]<;>and_intros<;>first|assumption|exact encVs_clo _|exact encV_clo _|exact decide_eq_true (by omega)|exact decide_eq_false (by omega)|omega|exact trivial|exact .inl trivial|exact .inr ⟨trivial,hgl3⟩|(constructor<;>omega)|exact ⟨.inl trivial,by omega⟩|exact Id_z1):Holds cs:=h
theorem size_cnt:∀ v:JV,sizeV v<=cntV v
 | .mk h l=>by
  have key:∀ l:List JV,(∀ x ∈ l,sizeV x<=cntV x)->sizeVs l<=cntVs l:=by
   intro l
   induction l with
   | nil=>intro _;simp [sizeVs,cntVs]
   | cons x l ih =>
    intro hx
    have:=hx x (by simp)
    have:=ih fun y hy=>hx y (List.mem_cons_of_mem _ hy)
    simp only [sizeVs,cntVs];omega
  have:=key l fun x hx=>size_cnt x
  simp only [sizeV,cntV];omega
termination_by v=>sizeV v
decreasing_by
 obtain ⟨i,hi⟩:=List.getElem?_of_mem hx
 exact sizeV_item (v:=.mk h l) hi
def opV (v:JV):List JV:=if v.kind=5/\v.items ≠ [] then v.items else [v]
theorem openV_eq (l:List JV):openV l=l.flatMap opV:=rfl
theorem openV_snoc {l:List JV} {i:Nat} {x:JV} (h:l[i]?=some x):openV (l.take (i+1))=openV (l.take i)++opV x:=by
 simp only [openV_eq]
 rw [take_snoc h,List.flatMap_append];simp
theorem opV_cnt (v:JV):cntVs (opV v)<=cntV v:=by
 unfold opV
 split
 ·rw [cntV_eq];omega
 ·simp [cntVs]
theorem openV_cnt (l:List JV):cntVs (openV l)<=cntVs l:=by rw [openV_eq];exact cntVs_flat _ opV_cnt l
theorem cnt_pos (v:JV):1<=cntV v:=by rw [cntV_eq];omega
theorem len_cnt:∀ l:List JV,l.length<=cntVs l
 | []=>by simp
 | x::l=>by have:=len_cnt l;have:=cnt_pos x;simp only [List.length_cons,cntVs];omega
theorem openV_bd (l:List JV) (i:Nat):(openV (l.take i)).length<=cntVs l:=by
 have:=openV_cnt (l.take i);have:=len_cnt (openV (l.take i));have:=cntVs_take l i;omega
def candV (p:List (List UInt8)) (v:JV):List JV:=openV (allV v p)
theorem candV_cnt (p:List (List UInt8)) (v:JV):cntVs (candV p v)<=cntV v:=by
 have:=openV_cnt (allV v p);have:=allV_cnt p v;unfold candV;omega
theorem call44:callable Tryz.prog 44=true:=kr
section
variable (W:World)
theorem loop44 (l:List JV) (hl:cntVs l<=2 ^ 30):∀ (k i:Nat),l.length - i=k->i<=l.length->LoopC Tryz.prog W [] (nslots Tryz.prog 44) (loopOf Tryz.prog 44 0) (S44 l (openV (l.take i)) i) (.exit 0) (E44 (openV l)):=by
 have hlen:=encVs_len l
 have hlc:=len_cnt l
 intro k
 induction k with
 | zero =>
  intro i hk hi
  have e:i=l.length:=by omega
  subst e
  rw [List.take_length]
  exact loop_last (by simp) (body_of_sbodyK mixedz (b44_3 W l (openV l) l.length) Id_z2 [] [] Id_z1)
 | succ k ih =>
  intro i hk hi
  obtain ⟨x,hx⟩:=getOf (l:=l) (i:=i) (by omega)
  have hws:IntKind.i64.wrap ((i:Int)+1)=((i+1:Nat):Int):=wrap_succ (by omega)
  have hget:=encVs_get hx
  have nx:=ih (i+1) (by omega) (by omega)
  have hb1:=openV_bd l i
  have hb2:=openV_bd l (i+1)
  rw [openV_snoc hx] at nx hb2
  rw [List.length_append] at hb2
  generalize openV (l.take i)=out at *
  have hlo:=encVs_len out
  obtain ⟨hx',lx⟩:=x
  have hlx:=encVs_len lx
  have one:¬ (hx'.kind=5/\lx ≠ [])->opV (.mk hx' lx)=[.mk hx' lx]:=fun h=>by unfold opV;exact if_neg h
  by_cases h5:hx'.kind=5
  ·by_cases h0:lx=[]
   ·rw [one (fun h=>h.2 h0)] at nx hb2
    have hset:List.take out.length (encVs out)++[encV (.mk hx' lx)]=encVs (out++[.mk hx' lx]):=encVs_push out [.mk hx' lx]
    have hgl:out.length+[encV (.mk hx' lx)].length=(out++[JV.mk hx' lx]).length:=by rw [List.length_append];rfl
    have g0:lx.length=0:=by rw [h0];rfl
    have gl1:[eV hx' lx].length=1:=rfl
    have gl2:[JV.mk hx' lx].length=1:=rfl
    have c1:=decide_eq_true h5
    exact loop_next (body_of_sbodyK mixedz (b44_1 W l out hx' lx i) (by clear nx ih;exact Id_z2) [(100000,100003)] [] (σ3:=S44 l (out++[.mk hx' lx]) (i+1)) (by clear nx ih;exact Id_z1)) nx
   ·have e:opV (.mk hx' lx)=lx:=by unfold opV;exact if_pos ⟨h5,h0⟩
    rw [e] at nx hb2
    have hset:List.take out.length (encVs out)++encVs lx=encVs (out++lx):=encVs_push out lx
    have hgl:out.length+(encVs lx).length=(out++lx).length:=by rw [List.length_append,hlx]
    have g0:0<lx.length:=List.length_pos_iff.2 h0
    have c1:=decide_eq_true h5
    exact loop_next (body_of_sbodyK mixedz (b44_0 W l out hx' lx i) (by clear nx ih;exact Id_z2) [(100000,100002)] [] (σ3:=S44 l (out++lx) (i+1)) (by clear nx ih;exact Id_z1)) nx
  ·rw [one (fun h=>h5 h.1)] at nx hb2
   have hset:List.take out.length (encVs out)++[encV (.mk hx' lx)]=encVs (out++[.mk hx' lx]):=encVs_push out [.mk hx' lx]
   have hgl:out.length+[encV (.mk hx' lx)].length=(out++[JV.mk hx' lx]).length:=by rw [List.length_append];rfl
   have gl1:[eV hx' lx].length=1:=rfl
   have gl2:[JV.mk hx' lx].length=1:=rfl
   have c1:=decide_eq_false h5
   exact loop_next (body_of_sbodyK mixedz (b44_2 W l out hx' lx i) (by clear nx ih;exact Id_z2) [(100000,100003)] [] (σ3:=S44 l (out++[.mk hx' lx]) (i+1)) (by clear nx ih;exact Id_z1)) nx
theorem opened44 (l:List JV) (hl:cntVs l<=2 ^ 30):Pure Tryz.prog W 44 [.sl 5 (encVs l) []] (.sl 5 (encVs (openV l)) []):=by
 have hlen:=encVs_len l
 have hlp:=loop44 W l hl l.length 0 (by omega) (by omega)
 exact pure_frz1 (mut_of_sfun mixedz call44 rfl (p44_0 W l (openV l)) Id_z2) (encVs_len _).symm (encVs_clo _)
end
end Dd
end Go.Ac

namespace Go.Ac
open Go Go.Proofs
set_option maxRecDepth 10000
set_option maxHeartbeats 1000000
namespace Dd
def GV (v:JV):Prop:=cntV v<=2 ^ 30/\tnV v
def N0:Nat:=2 ^ 30+1
theorem GV.size {v:JV} (h:GV v):sizeV v<N0:=by have:=size_cnt v;have:=h.1;unfold N0;omega
theorem GV.ok {v:JV} (h:GV v):okV v:=okV_cnt v h.1
section
variable (W:World)
end
end Dd
end Go.Ac

namespace Go.Ac
open Go Go.Proofs
set_option maxRecDepth 10000
set_option maxHeartbeats 1000000
namespace Dd
section
variable (W:World)
theorem cmp36 (x y:JV) (hx:cntV x<=2 ^ 30):MutC Tryz.prog W 36 [encV x,encV y] [] (.ret (iA (cmpF N0 x y)) []) :=
 mut_of_pure (by simp only [cloL,encV_clo,Bool.and_self]) (compare81 W N0 x y (by have:=size_cnt x;unfold N0;omega) hx)
end
end Dd
end Go.Ac

namespace Go.Ac
open Go Go.Proofs
set_option maxRecDepth 10000
set_option maxHeartbeats 1000000
namespace Dd
def dcnt:List Doc->Nat
 | []=>0
 | d::D=>cntV d.v+dcnt D
theorem dcnt_mem:∀ {D:List Doc} {d:Doc},d ∈ D->cntV d.v<=dcnt D
 | x::D,d,h=>by
  rcases List.mem_cons.1 h with rfl|h
  ·simp only [dcnt];omega
  ·have:=dcnt_mem h;simp only [dcnt];omega
theorem drop_cons {α:Type} {l:List α} {i:Nat} {x:α} (h:l[i]?=some x):l.drop i=x::l.drop (i+1):=by
 obtain ⟨hi',e⟩:=List.getElem?_eq_some_iff.1 h
 rw [List.drop_eq_getElem_cons hi',e]
section
variable (W:World)
end
end Dd
end Go.Ac

