/- What is proved: contracts of functions of this translation, walked; their plain meaning. No condition beyond those that each theorem names. -/
import Derived.Test.YtohlmhkiejpkgaaGreatDoorFb10
set_option linter.all false
namespace Go.Ac
open Go Go.Proofs
set_option maxRecDepth 10000
set_option maxHeartbeats 1000000
theorem Fb11_z1 {kp f ph σ σ'} (h:MatchK kp f ph σ σ':=by exact ⟨by rfl,(by simp only [S64,S280,E280,E0,Rb4,tOK,List.map_cons,List.map_nil,and_true]<;>exact zt),(by simp only [S64,S280,E280,E0,Rb4,hOK,List.map_cons,List.map_nil,and_true]<;>exact zh),(by simp only [S64,S280,E280,E0,Rb4,liveT,List.map_cons,List.map_nil,and_true]<;>exact zv),(by simp only [S64,S280,E280,E0,Rb4,liveH,List.map_cons,List.map_nil,and_true]<;>exact zv)⟩):MatchK kp f ph σ σ':=h
theorem Fb11_z2 {cs} (h:Holds cs:=by simp only [Holds,and_true]<;>and_intros<;>first|exact zd):Holds cs:=h
theorem Fb11_z3 {cs} (h:Holds cs:=by simp only [Holds,and_true]<;>and_intros<;>first|exact zd|exact Fb11_z1):Holds cs:=h
def S64 (h:JH) (l:List JV) (ns:List AV) (i:Nat):AS:=⟨[(3,.gp 100001 0),(8,.sl 1 ns []),(9,iA ns.length),(10,iA i)],[(100001,.box (encV (.mk h l)) .own)]⟩
def clauseA (s:List UInt8) (P T:List AV):AV:=.ifc 152 (.agg [.str s,.sl 1 P [],.sl 7 T []])
def S280 (h:JH) (l:List JV) (s:List UInt8) (Q:List AV) (n:Int) (i:Nat):AS:=⟨[(2,.gp 100000 0),(3,.gp 100001 0),(5,iA n),(9,.sl 1 Q []),(10,iA Q.length),(11,iA i)],[(100000,.box (.agg [.str s,.sl 1 Q []]) .own),(100001,.box (encV (.mk h l)) .own)]⟩
def E280 (s:List UInt8) (Q:List AV) (n:Int):AS:=⟨[(2,.gp 100000 0),(5,iA n)],[(100000,.box (.agg [.str s,.sl 1 Q []]) .own)]⟩
def groupA (s:List UInt8) (Q:List AV):AV:=.ifc 155 (.agg [.str s,.sl 1 Q []])
theorem c64_0 (W:World) (h:JH) (l:List JV) (ns:List AV) (i:Nat) (s:List UInt8) (P T:List AV) (b:Bool):sQ W {lp:=true,tl:=[279,280]} 64 0 [] [3,4,8,9,10] (S64 h l ns i) [bt,aE 1,oS (clauseA s P T),ee,cR (bA b) [],bt,ee]=.ok ((.ret,{t:=[(3,.gp 100001 0),(4,bA false),(8,sL 1 ns),(9,iA (ns.length:Int)),(10,iA (i:Int))],h:=[(100001,gB (eV h l))]}),[ee],[(!b)=true,MZ W 279 [.agg [.str s,sL 1 P,sL 7 T],eV h l] [] (.ret (bA b) []),ns[(i:Int).toNat]?=some (AV.ifc 152 (.agg [.str s,sL 1 P,sL 7 T])),decide ((i:Int)<(ns.length:Int))=true]):=kr
theorem c64_1 (W:World) (h:JH) (l:List JV) (ns:List AV) (i:Nat) (s:List UInt8) (P T:List AV) (b:Bool):sQ W {lp:=true,tl:=[279,280]} 64 0 [] [3,4,8,9,10] (S64 h l ns i) [bt,aE 1,oS (clauseA s P T),ee,cR (bA b) [],bf,ee]=.ok ((.normal,{t:=[(3,.gp 100001 0),(8,sL 1 ns),(9,iA (ns.length:Int)),(10,iA (IntKind.i64.wrap ((i:Int)+1)))],h:=[(100001,gB (eV h l))]}),[ee],[(!b)=false,MZ W 279 [.agg [.str s,sL 1 P,sL 7 T],eV h l] [] (.ret (bA b) []),ns[(i:Int).toNat]?=some (AV.ifc 152 (.agg [.str s,sL 1 P,sL 7 T])),decide ((i:Int)<(ns.length:Int))=true]):=kr
theorem g64_0 (W:World) (h:JH) (l:List JV) (ns:List AV) (i:Nat) (s:List UInt8) (P:List AV) (b:Bool):sQ W {lp:=true,tl:=[279,280]} 64 0 [] [3,4,8,9,10] (S64 h l ns i) [bt,aE 1,oS (groupA s P),ee,cR (bA b) [],bt,ee]=.ok ((.ret,{t:=[(3,.gp 100001 0),(4,bA false),(8,sL 1 ns),(9,iA (ns.length:Int)),(10,iA (i:Int))],h:=[(100001,gB (eV h l))]}),[ee],[(!b)=true,MZ W 280 [.agg [.str s,sL 1 P],eV h l] [] (.ret (bA b) []),ns[(i:Int).toNat]?=some (AV.ifc 155 (.agg [.str s,sL 1 P])),decide ((i:Int)<(ns.length:Int))=true]):=kr
theorem g64_1 (W:World) (h:JH) (l:List JV) (ns:List AV) (i:Nat) (s:List UInt8) (P:List AV) (b:Bool):sQ W {lp:=true,tl:=[279,280]} 64 0 [] [3,4,8,9,10] (S64 h l ns i) [bt,aE 1,oS (groupA s P),ee,cR (bA b) [],bf,ee]=.ok ((.normal,{t:=[(3,.gp 100001 0),(8,sL 1 ns),(9,iA (ns.length:Int)),(10,iA (IntKind.i64.wrap ((i:Int)+1)))],h:=[(100001,gB (eV h l))]}),[ee],[(!b)=false,MZ W 280 [.agg [.str s,sL 1 P],eV h l] [] (.ret (bA b) []),ns[(i:Int).toNat]?=some (AV.ifc 155 (.agg [.str s,sL 1 P])),decide ((i:Int)<(ns.length:Int))=true]):=kr
theorem p64_0 (W:World) (h:JH) (l:List JV) (ns:List AV):sF W {lp:=true} 64 [.agg [.sl 1 ns []],eV h l] [] 100000 [ee,.loopM [] [] (S64 h l ns 0) .ret (Rb4 false),ee] []=.ok (.ret (bA false) [],[ee],[LZ W [] 64 0 (S64 h l ns 0) .ret (Rb4 false),MatchK [] [] [] {t:=[(3,.gp 100001 0),(8,sL 1 ns),(9,iA (ns.length:Int)),(10,iA 0)],h:=[(100000,gB (.agg [sL 1 ns])),(100001,gB (eV h l))]} (S64 h l ns 0)]):=kr
theorem q64_0 (W:World) (h:JH) (l:List JV) (ns:List AV):sF W {lp:=true} 64 [.agg [.sl 1 ns []],eV h l] [] 100000 [ee,.loopM [] [] (S64 h l ns 0) (.exit 0) E0,ee] []=.ok (.ret (bA true) [],[ee],[LZ W [] 64 0 (S64 h l ns 0) (.exit 0) E0,MatchK [] [] [] {t:=[(3,.gp 100001 0),(8,sL 1 ns),(9,iA (ns.length:Int)),(10,iA 0)],h:=[(100000,gB (.agg [sL 1 ns])),(100001,gB (eV h l))]} (S64 h l ns 0)]):=kr
theorem p279_0 (W:World) (h:JH) (l:List JV) (s:List UInt8) (P T:List AV) (b:Bool) (r:List JV):sF W {lp:=true,tl:=[95,223]} 279 [.agg [.str s,.sl 1 P [],.sl 7 T []],eV h l] [] 100000 [ee,cR (sL 5 (encVs r)) [],ee,cR (bA b) [],ee] []=.ok (.ret (bA b) [],[ee],[MZ W 223 [sL 7 T,sL 5 (encVs r)] [] (.ret (bA b) []),MZ W 95 [eV h l,sL 1 P] [] (.ret (sL 5 (encVs r)) [])]):=kr
theorem b280_0 (W:World) (h:JH) (l:List JV) (s:List UInt8) (Q:List AV) (n:Int) (i:Nat) (ns:List AV) (b:Bool):sQ W {lp:=true,tl:=[64]} 280 0 [] [2,3,5,9,10,11] (S280 h l s Q n i) [bt,aE 1,oS (.ifc 105 (.agg [sL 1 ns])),ee,cR (bA b) [],bt,ee]=.ok ((.normal,{t:=[(2,.gp 100000 0),(3,.gp 100001 0),(5,iA (IntKind.i64.wrap (n+1))),(9,sL 1 Q),(10,iA (Q.length:Int)),(11,iA (IntKind.i64.wrap ((i:Int)+1)))],h:=[(100000,gB (.agg [.str s,sL 1 Q])),(100001,gB (eV h l))]}),[ee],[b=true,MZ W 64 [.agg [sL 1 ns],eV h l] [] (.ret (bA b) []),Q[(i:Int).toNat]?=some (AV.ifc 105 (.agg [sL 1 ns])),decide ((i:Int)<(Q.length:Int))=true]):=kr
theorem b280_1 (W:World) (h:JH) (l:List JV) (s:List UInt8) (Q:List AV) (n:Int) (i:Nat) (ns:List AV) (b:Bool):sQ W {lp:=true,tl:=[64]} 280 0 [] [2,3,5,9,10,11] (S280 h l s Q n i) [bt,aE 1,oS (.ifc 105 (.agg [sL 1 ns])),ee,cR (bA b) [],bf,ee]=.ok ((.normal,{t:=[(2,.gp 100000 0),(3,.gp 100001 0),(5,iA n),(9,sL 1 Q),(10,iA (Q.length:Int)),(11,iA (IntKind.i64.wrap ((i:Int)+1)))],h:=[(100000,gB (.agg [.str s,sL 1 Q])),(100001,gB (eV h l))]}),[ee],[b=false,MZ W 64 [.agg [sL 1 ns],eV h l] [] (.ret (bA b) []),Q[(i:Int).toNat]?=some (AV.ifc 105 (.agg [sL 1 ns])),decide ((i:Int)<(Q.length:Int))=true]):=kr
theorem b280_2 (W:World) (h:JH) (l:List JV) (s:List UInt8) (Q:List AV) (n:Int) (i:Nat):sQ W {lp:=true,tl:=[64]} 280 0 [] [2,3,5,9,10,11] (S280 h l s Q n i) [bf,ee]=.ok ((.exit 0,{t:=[(2,.gp 100000 0),(3,.gp 100001 0),(5,iA n),(9,sL 1 Q),(10,iA (Q.length:Int)),(11,iA (i:Int))],h:=[(100000,gB (.agg [.str s,sL 1 Q])),(100001,gB (eV h l))]}),[ee],[decide ((i:Int)<(Q.length:Int))=false]):=kr
theorem p280_0 (W:World) (h:JH) (l:List JV) (s:List UInt8) (Q:List AV) (n:Int):sF W {lp:=true} 280 [.agg [.str s,.sl 1 Q []],eV h l] [] 100000 [ee,.loopM [] [] (S280 h l s Q 0 0) (.exit 0) (E280 s Q n),bt,ee] []=.ok (.ret (bA (decide (n=(Q.length:Int)))) [],[ee],[decide (s=[36,97,110,100])=true,LZ W [] 280 0 (S280 h l s Q 0 0) (.exit 0) (E280 s Q n),MatchK [] [] [] {t:=[(2,.gp 100000 0),(3,.gp 100001 0),(5,iA 0),(9,sL 1 Q),(10,iA (Q.length:Int)),(11,iA 0)],h:=[(100000,gB (.agg [.str s,sL 1 Q])),(100001,gB (eV h l))]} (S280 h l s Q 0 0)]):=kr
theorem p280_1 (W:World) (h:JH) (l:List JV) (s:List UInt8) (Q:List AV) (n:Int):sF W {lp:=true} 280 [.agg [.str s,.sl 1 Q []],eV h l] [] 100000 [ee,.loopM [] [] (S280 h l s Q 0 0) (.exit 0) (E280 s Q n),bf,bt,ee] []=.ok (.ret (bA (decide (0<n))) [],[ee],[decide (s=[36,111,114])=true,decide (s=[36,97,110,100])=false,LZ W [] 280 0 (S280 h l s Q 0 0) (.exit 0) (E280 s Q n),MatchK [] [] [] {t:=[(2,.gp 100000 0),(3,.gp 100001 0),(5,iA 0),(9,sL 1 Q),(10,iA (Q.length:Int)),(11,iA 0)],h:=[(100000,gB (.agg [.str s,sL 1 Q])),(100001,gB (eV h l))]} (S280 h l s Q 0 0)]):=kr
theorem p280_2 (W:World) (h:JH) (l:List JV) (s:List UInt8) (Q:List AV) (n:Int):sF W {lp:=true} 280 [.agg [.str s,.sl 1 Q []],eV h l] [] 100000 [ee,.loopM [] [] (S280 h l s Q 0 0) (.exit 0) (E280 s Q n),bf,bf,ee] []=.ok (.ret (bA (decide (n=0))) [],[ee],[decide (s=[36,111,114])=false,decide (s=[36,97,110,100])=false,LZ W [] 280 0 (S280 h l s Q 0 0) (.exit 0) (E280 s Q n),MatchK [] [] [] {t:=[(2,.gp 100000 0),(3,.gp 100001 0),(5,iA 0),(9,sL 1 Q),(10,iA (Q.length:Int)),(11,iA 0)],h:=[(100000,gB (.agg [.str s,sL 1 Q])),(100001,gB (eV h l))]} (S280 h l s Q 0 0)]):=kr
theorem x64_0 (W:World) (h:JH) (l:List JV) (ns:List AV) (i:Nat):sQ W {lp:=true} 64 0 [] [3,4,8,9,10] (S64 h l ns i) [bf,ee]=.ok ((.exit 0,{t:=[(3,.gp 100001 0),(8,sL 1 ns),(9,iA (ns.length:Int)),(10,iA (i:Int))],h:=[(100001,gB (eV h l))]}),[ee],[decide ((i:Int)<(ns.length:Int))=false]):=kr
theorem p20_0 (W:World) (h:JH) (l:List JV) (ns:List AV) (t:Int) (b:Bool):sF W {lp:=true,tl:=[64]} 20 [.ip (.agg [.sl 1 ns [],iA t]) 0,eV h l] [] 100000 [ee,cR (bA b) [],ee] []=.ok (.ret (bA b) [],[aE 9999999],[MZ W 64 [.agg [sL 1 ns],eV h l] [] (.ret (bA b) [])]):=kr
theorem call64:callable Tryz.prog 64=true:=kr
theorem call279:callable Tryz.prog 279=true:=kr
theorem call280:callable Tryz.prog 280=true:=kr
theorem call20:callable Tryz.prog 20=true:=kr
inductive NodeC (W:World) (d:JV) (b:Bool):AV->Prop
 | clause (s P T):Pure Tryz.prog W 279 [.agg [.str s,.sl 1 P [],.sl 7 T []],encV d] (bA b)->NodeC W d b (clauseA s P T)
 | group (s Q):Pure Tryz.prog W 280 [.agg [.str s,.sl 1 Q []],encV d] (bA b)->NodeC W d b (groupA s Q)
theorem countP_cons_some {p:JV->Bool} {l:List JV} {i:Nat} {x:JV} (hx:l[i]?=some x):((l.take (i+1)).countP p:Int)=(l.take i).countP p+(if p x=true then 1 else 0):=by
 rw [take_snoc hx,List.countP_append,List.countP_singleton]
 split<;>simp
section
variable (W:World)
theorem node_step {d:JV} {b:Bool} {f:AV} (hm:NodeC W d b f) {ns:List AV} (hl:ns.length<=2 ^ 50) {i:Nat} (hx:ns[i]?=some f) :
 (b=false->BodyC Tryz.prog W [] (nslots Tryz.prog 64) (loopOf Tryz.prog 64 0) (S64 d.hd d.items ns i) .ret (Rb4 false))/\(b=true->BodyC Tryz.prog W [] (nslots Tryz.prog 64) (loopOf Tryz.prog 64 0) (S64 d.hd d.items ns i) .normal (S64 d.hd d.items ns (i+1:Nat))):=by
 have hget:=hx
 have hi:i<ns.length:=(List.getElem?_eq_some_iff.1 hx).1
 have hws:IntKind.i64.wrap ((i:Int)+1)=((i+1:Nat):Int):=wrap_succ (by omega)
 obtain ⟨h,l⟩:=d
 cases hm with
 | clause s P T hh =>
  have hc:=mut_of_pure (by simp only [cloL,encV_clo,Bool.and_self];rfl) hh
  exact ⟨fun e=>(fun hb1:(!b)=true=>body_of_sbodyK mixedz (c64_0 W h l ns i s P T b) Fb11_z2 [] [] Fb11_z1) (by rw [e];rfl),fun e=>(fun hb1:(!b)=false=>body_of_sbodyK mixedz (c64_1 W h l ns i s P T b) Fb11_z2 [] [] Fb11_z1) (by rw [e];rfl)⟩
 | group s Q hh =>
  have hc:=mut_of_pure (by simp only [cloL,encV_clo,Bool.and_self];rfl) hh
  exact ⟨fun e=>(fun hb1:(!b)=true=>body_of_sbodyK mixedz (g64_0 W h l ns i s Q b) Fb11_z2 [] [] Fb11_z1) (by rw [e];rfl),fun e=>(fun hb1:(!b)=false=>body_of_sbodyK mixedz (g64_1 W h l ns i s Q b) Fb11_z2 [] [] Fb11_z1) (by rw [e];rfl)⟩
theorem loop64 {d:JV} (F:List UInt8×JV->AV) (B:List UInt8×JV->Bool) (ps:List (List UInt8×JV)) (hl:ps.length<=2 ^ 50) (hm:∀ p ∈ ps,NodeC W d (B p) (F p)):∀ (k i:Nat),ps.length - i=k->i<=ps.length →
 ((ps.drop i).all B=false->LoopC Tryz.prog W [] (nslots Tryz.prog 64) (loopOf Tryz.prog 64 0) (S64 d.hd d.items (ps.map F) i) .ret (Rb4 false))/\((ps.drop i).all B=true->LoopC Tryz.prog W [] (nslots Tryz.prog 64) (loopOf Tryz.prog 64 0) (S64 d.hd d.items (ps.map F) i) (.exit 0) E0):=by
 have hlen:(ps.map F).length=ps.length:=by simp
 intro k
 induction k with
 | zero =>
  intro i hk h1
  have hi:i=ps.length:=by omega
  subst hi
  rw [List.drop_length]
  exact ⟨fun h=>(by cases h),fun _=>loop_last (by simp) (body_of_sbodyK mixedz (x64_0 W d.hd d.items (ps.map F) ps.length) Fb11_z2 [] [] Fb11_z1)⟩
 | succ k ih =>
  intro i hk h1
  obtain ⟨p,hp⟩:=getOf (l:=ps) (i:=i) (by omega)
  have hx:(ps.map F)[i]?=some (F p):=by rw [List.getElem?_map,hp];rfl
  obtain ⟨s1,s2⟩:=node_step W (hm p (List.mem_of_getElem? hp)) (by omega) hx
  obtain ⟨i1,i2⟩:=ih (i+1) (by omega) (by omega)
  rw [drop_get hp,List.all_cons]
  cases e:B p with
  | false=>exact ⟨fun _=>loop_last (by simp) (s1 e),fun h=>(by rw [Bool.false_and] at h;cases h)⟩
  | true =>
   rw [Bool.true_and]
   exact ⟨fun h=>loop_next (s2 e) (i1 h),fun h=>loop_next (s2 e) (i2 h)⟩
theorem match64 {d:JV} (F:List UInt8×JV->AV) (B:List UInt8×JV->Bool) (ps:List (List UInt8×JV)) (hl:ps.length<=2 ^ 50) (hm:∀ p ∈ ps,NodeC W d (B p) (F p)):Pure Tryz.prog W 64 [.agg [.sl 1 (ps.map F) []],encV d] (bA (ps.all B)):=by
 obtain ⟨i1,i2⟩:=loop64 W F B ps hl hm ps.length 0 (by simp) (by omega)
 rw [List.drop_zero] at i1 i2
 obtain ⟨h,l⟩:=d
 cases e:ps.all B with
 | false =>
  have hlp:=i1 e
  exact pure_of_mut rfl (mut_of_sfun mixedz call64 rfl (p64_0 W h l (ps.map F)) Fb11_z3)
 | true =>
  have hlp:=i2 e
  exact pure_of_mut rfl (mut_of_sfun mixedz call64 rfl (q64_0 W h l (ps.map F)) Fb11_z3)
def nodesQ (G:JV->List AV) (l:List JV):List AV:=l.map fun y=>.ifc 105 (.agg [.sl 1 (G y) []])
theorem loop280 {d:JV} (s:List UInt8) (G:JV->List AV) (B:JV->Bool) (ys:List JV) (hl:ys.length<=2 ^ 50) (hm:∀ y ∈ ys,Pure Tryz.prog W 64 [.agg [.sl 1 (G y) []],encV d] (bA (B y))):∀ i:Nat,i<=ys.length →
 LoopC Tryz.prog W [] (nslots Tryz.prog 280) (loopOf Tryz.prog 280 0) (S280 d.hd d.items s (nodesQ G ys) ((ys.take i).countP B:Nat) i) (.exit 0) (E280 s (nodesQ G ys) (ys.countP B:Nat)):=by
 have hlen:(nodesQ G ys).length=ys.length:=by simp [nodesQ]
 refine loopC_inv (fun i:Nat=>S280 d.hd d.items s (nodesQ G ys) ((ys.take i).countP B:Nat) i) (fun i=>i<=ys.length) (fun i=>ys.length - i) (by simp) ?_
 intro i h1
 have hcp:(ys.take i).countP B<=i:=by have:=List.countP_le_length (p:=B) (l:=ys.take i);simp only [List.length_take] at this;omega
 have hws:IntKind.i64.wrap ((i:Int)+1)=((i+1:Nat):Int):=wrap_succ (by omega)
 have hwn:IntKind.i64.wrap ((((ys.take i).countP B:Nat):Int)+1)=(((ys.take i).countP B:Nat):Int)+1:=by rw [wrap_succ (by omega)];rfl
 by_cases hi:i<ys.length
 ·obtain ⟨y,hy⟩:=getOf hi
  have hget:(nodesQ G ys)[((i:Int)).toNat]?=some (.ifc 105 (.agg [.sl 1 (G y) []])):=by rw [Int.toNat_natCast];unfold nodesQ;rw [List.getElem?_map,hy];rfl
  have hc:=mut_of_pure (by simp only [cloL,encV_clo,Bool.and_self];rfl) (hm y (List.mem_of_getElem? hy))
  refine .inl ⟨i+1,by omega,by omega,?_⟩
  have hstep:=countP_cons_some (p:=B) hy
  obtain ⟨h,l⟩:=d
  cases e:B y with
  | true =>
   rw [e,if_pos rfl] at hstep
   rw [hstep]
   rw [e] at hc
   exact body_of_sbodyK mixedz (b280_0 W h l s (nodesQ G ys) _ i (G y) true) Fb11_z2 [] [] Fb11_z1
  | false =>
   rw [e,if_neg (by simp),Int.add_zero] at hstep
   rw [hstep]
   rw [e] at hc
   exact body_of_sbodyK mixedz (b280_1 W h l s (nodesQ G ys) _ i (G y) false) Fb11_z2 [] [] Fb11_z1
 ·have hil:i=ys.length:=by omega
  subst hil
  rw [List.take_length]
  obtain ⟨h,l⟩:=d
  exact .inr (body_of_sbodyK mixedz (b280_2 W h l s (nodesQ G ys) _ ys.length) Fb11_z2 [] [] Fb11_z1)
theorem group280 {d:JV} (s:List UInt8) (G:JV->List AV) (B:JV->Bool) (ys:List JV) (hl:ys.length<=2 ^ 50) (hm:∀ y ∈ ys,Pure Tryz.prog W 64 [.agg [.sl 1 (G y) []],encV d] (bA (B y))) :
 Pure Tryz.prog W 280 [.agg [.str s,.sl 1 (nodesQ G ys) []],encV d] (bA (if s=sAnd then ys.all B else if s=sOr then ys.any B else !ys.any B)):=by
 have hlp:=loop280 W (d:=d) s G B ys hl hm 0 (by omega)
 rw [List.take_zero,List.countP_nil] at hlp
 have hlen:(nodesQ G ys).length=ys.length:=by simp [nodesQ]
 have hle:=List.countP_le_length (p:=B) (l:=ys)
 have hall:ys.all B=decide (((ys.countP B:Nat):Int)=((nodesQ G ys).length:Int)):=by
  rw [hlen,Bool.eq_iff_iff,decide_eq_true_eq,Int.ofNat_inj,List.countP_eq_length,List.all_eq_true]
 have hany:ys.any B=decide (0<((ys.countP B:Nat):Int)):=by
  rw [Bool.eq_iff_iff,decide_eq_true_eq,List.any_eq_true]
  rw [show (0<((ys.countP B:Nat):Int)) ↔ 0<ys.countP B by omega,List.countP_pos_iff]
 obtain ⟨h,l⟩:=d
 by_cases e1:s=sAnd
 ·have e1':s=[36,97,110,100]:=e1
  rw [if_pos e1,hall]
  exact pure_of_mut rfl (mut_of_sfun mixedz call280 rfl (p280_0 W h l s (nodesQ G ys) _) Fb11_z3)
 have e1':¬ s=[36,97,110,100]:=e1
 rw [if_neg e1]
 by_cases e2:s=sOr
 ·have e2':s=[36,111,114]:=e2
  rw [if_pos e2,hany]
  exact pure_of_mut rfl (mut_of_sfun mixedz call280 rfl (p280_1 W h l s (nodesQ G ys) _) Fb11_z3)
 have e2':¬ s=[36,111,114]:=e2
 rw [if_neg e2]
 have hnot:(!ys.any B)=decide (((ys.countP B:Nat):Int)=0):=by
  rw [hany]
  by_cases q:((ys.countP B:Nat):Int)=0
  ·rw [q];rfl
  ·rw [decide_eq_true (show 0<((ys.countP B:Nat):Int) by omega),decide_eq_false q];rfl
 rw [hnot]
 exact pure_of_mut rfl (mut_of_sfun mixedz call280 rfl (p280_2 W h l s (nodesQ G ys) _) Fb11_z3)
theorem clause279 (s:List UInt8) (p:List (List UInt8)) (T:List AV) (b:Bool) {d:JV} (hd:cntV d<=2 ^ 30) (h:Pure Tryz.prog W 223 [.sl 7 T [],.sl 5 (encVs (allV d p)) []] (bA b)):Pure Tryz.prog W 279 [.agg [.str s,.sl 1 (p.map AV.str) [],.sl 7 T []],encV d] (bA b):=by
 have hc1:=mut_of_pure (by simp only [cloL,encV_clo,Bool.and_self];rfl) (all95 W _ d p (Nat.lt_succ_self _) hd)
 have hc2:=mut_of_pure (by rfl) h
 obtain ⟨hh,l⟩:=d
 exact pure_of_mut rfl (mut_of_sfun mixedz call279 rfl (p279_0 W hh l s (p.map AV.str) T b (allV (.mk hh l) p)) Fb11_z2)
end
mutual
def qN:Nat->JV->List AV
 | 0,_=>[]
 | n+1,q=>q.mems.map fun p=>if joinsB p.1 then groupA p.1 (nodesQ (qN n) p.2.items) else clauseA p.1 ((parseP p.1).map AV.str) (if isTestB p.2 then tT n p.2 else termsA (fun p=>asksA [] [] p.1 p.2) [(sEq,p.2)])
def tT:Nat->JV->List AV
 | 0,_=>[]
 | n+1,t=>termsA (fun p=>asksA (tT n p.2) (qN n p.2) p.1 p.2) t.mems
end
theorem foldX_all {α:Type} {f:α->Int->Except Int Int}:∀ {l:List α} {t t':Int},foldX f l t=.ok t'->∀ a ∈ l,∃ u u',f a u=.ok u'
 | [],t,t',h,a,ha=>by cases ha
 | x::l,t,t',h,a,ha=>by
  simp only [foldX] at h
  split at h
  ·rename_i t1 h1
   rcases List.mem_cons.1 ha with rfl|ha
   ·exact ⟨_,_,h1⟩
   ·exact foldX_all h a ha
  ·cases h
theorem mems_mem {v:JV} {p:List UInt8×JV} (h:p ∈ v.mems):p.1 ∈ v.names/\p.2 ∈ v.items:=by
 unfold JV.mems at h
 exact ⟨(List.of_mem_zip h).1,(List.of_mem_zip h).2⟩
theorem mem_item {v x:JV} (h:x ∈ v.items):cntV x<cntV v/\sizeV x<sizeV v:=by
 obtain ⟨i,hi⟩:=List.getElem?_of_mem h
 exact ⟨cntV_item hi,sizeV_item hi⟩
theorem mems_ln (v:JV):v.mems.length<=cntV v:=by
 have h1:=v.mems_len;have h2:=v.mem_items;have h3:=cntV_len v;omega
def TestP (W:World) (n:Nat):Prop:=∀ (t:JV) (d c c':Int),chkT n t d c=.ok c'->cntV t<=2 ^ 30->∀ l,cntVs l<=2 ^ 30->Pure Tryz.prog W 223 [.sl 7 (tT n t) [],.sl 5 (encVs l) []] (bA (allF n t l))
def QueryP (W:World) (n:Nat):Prop:=∀ (q:JV) (d c c':Int),chkQ n q d c=.ok c'->cntV q<=2 ^ 30->∀ x,cntV x<=2 ^ 30->Pure Tryz.prog W 64 [.agg [.sl 1 (qN n q) []],encV x] (bA (matchF n q x))
theorem test_step (W:World) (n:Nat) (hT:TestP W n) (hQ:QueryP W n):TestP W (n+1):=by
 intro t d c c' hk hct l hl
 rw [chkT] at hk
 split at hk
 ·cases hk
 split at hk
 ·cases hk
 rw [tT,allF]
 have hln:=mems_ln t
 refine holds223 W _ (fun p=>opG (allF n) (matchF n) p.1 p.2 l) t.mems (by omega) fun p hp=>?_
 obtain ⟨u,u',hu⟩:=foldX_all hk p hp
 have hpc:=(mem_item (mems_mem hp).2).1
 split at hu
 ·cases hu
 split at hu
 ·cases hu
 rename_i hop
 split at hu
 ·cases hu
 rename_i htk
 refine ask_ok W (allF n) (matchF n) (tT n p.2) (qN n p.2) p.1 p.2 (by simpa using hop) (by simpa using htk) (by omega) ?_ ?_ hl
 ·rintro (e|⟨e,e2⟩)
  ·rw [if_pos e] at hu
   exact fun l' hl'=>hT p.2 _ _ _ hu (by omega) l' hl'
  ·rw [if_neg (by rw [e];decide),if_pos e,if_pos e2] at hu
   exact fun l' hl'=>hT p.2 _ _ _ hu (by omega) l' hl'
 ·intro e e2 x hx
  rw [if_neg (by rw [e];decide),if_pos e,if_neg (by rw [e2];simp)] at hu
  exact hQ p.2 _ _ _ hu (by omega) x hx
theorem query_step (W:World) (n:Nat) (hT:TestP W n) (hQ:QueryP W n):QueryP W (n+1):=by
 intro q d c c' hk hcq x hx
 rw [chkQ] at hk
 split at hk
 ·cases hk
 split at hk
 ·cases hk
 rw [qN,matchF]
 have hln:=mems_ln q
 refine match64 W _ _ q.mems (by omega) fun p hp=>?_
 obtain ⟨u,u',hu⟩:=foldX_all hk p hp
 have hpc:=(mem_item (mems_mem hp).2).1
 have hal:=allV_cnt (parseP p.1) x
 by_cases hj:joinsB p.1=true
 ·rw [if_pos hj] at hu
  rw [if_pos hj,if_pos hj]
  split at hu
  ·cases hu
  have hcl:=cntV_len p.2
  exact .group _ _ (group280 W (d:=x) p.1 (qN n) (fun y=>matchF n y x) p.2.items (by omega) fun y hy=>by
   obtain ⟨v,v',hv⟩:=foldX_all hu y hy
   exact hQ y _ _ _ hv (by have:=(mem_item hy).1;omega) x hx)
 ·rw [if_neg hj] at hu
  rw [if_neg hj,if_neg hj]
  split at hu
  ·cases hu
  split at hu
  ·cases hu
  by_cases ht:isTestB p.2=true
  ·rw [if_pos ht] at hu
   rw [if_pos ht,if_pos ht]
   exact .clause _ _ _ (clause279 W p.1 _ _ _ hx (hT p.2 _ _ _ hu (by omega) _ (by omega)))
  ·rw [if_neg ht,if_neg ht]
   refine .clause _ _ _ (clause279 W p.1 _ _ _ hx ?_)
   have h:=holds223 W (l:=allV x (parseP p.1)) (fun p=>asksA [] [] p.1 p.2) (fun q=>eqG q.2 (allV x (parseP p.1))) [(sEq,p.2)] (by simp) fun r hr=>by
    rcases List.mem_singleton.1 hr with rfl
    exact .a170 _ (ask170 W p.2 (by omega))
   simpa using h
theorem both_ok (W:World):∀ n,TestP W n/\QueryP W n
 | 0=>⟨fun t d c c' _ _ l hl=>by
     have h:=holds223 W (l:=l) (fun p=>asksA [] [] p.1 p.2) (fun _=>true) [] (by simp) (fun p hp=>by cases hp)
     rw [tT,allF];exact h,fun q d c c' _ _ x hx=>by
     have h:=match64 W (d:=x) (fun _=>.top) (fun _=>true) [] (by simp) (fun p hp=>by cases hp)
     rw [qN,matchF];exact h⟩
 | n+1=>⟨test_step W n (both_ok W n).1 (both_ok W n).2,query_step W n (both_ok W n).1 (both_ok W n).2⟩
def filA (n:Nat) (q:JV) (t:Int):AV:=.ip (.agg [.sl 1 (qN n q) [],iA t]) 0
theorem match20 (W:World) {n:Nat} {q:JV} {d c c':Int} (h:chkQ n q d c=.ok c') (hq:cntV q<=2 ^ 30) (t:Int) {x:JV} (hx:cntV x<=2 ^ 30):Pure Tryz.prog W 20 [filA n q t,encV x] (bA (matchF n q x)):=by
 have hc:=mut_of_pure (by simp only [cloL,encV_clo,Bool.and_self];rfl) ((both_ok W n).2 q d c c' h hq x hx)
 obtain ⟨hh,l⟩:=x
 exact pure_of_mut rfl (mut_of_sfun mixedz call20 rfl (p20_0 W hh l (qN n q) t _) Fb11_z2)
end Go.Ac

