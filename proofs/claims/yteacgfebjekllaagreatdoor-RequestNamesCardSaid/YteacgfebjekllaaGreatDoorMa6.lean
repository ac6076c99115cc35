/- What is proved: plain functions of documents, paths and queries; more of how told runs are read. No condition beyond those that each theorem names. -/
import Derived.Test.YteacgfebjekllaaGreatDoorMa5
import Derived.Lib.Bytealg
set_option linter.all false
namespace Go.Ac
open Go
section
variable {P:Program} {W:World} {f:FuncId}
theorem mut_subK {As:List AV} {h0 h1 h2:List (Nat×GE)} {r r2:AV} (hM:MutC P W f As h0 (.ret r h1)) (hs:SubK (h0.map (·.1)) ⟨[(0,r)],h1⟩ ⟨[(0,r2)],h2⟩):MutC P W f As h0 (.ret r2 h2):=by
 intro β I w vs hw hlB hi hR
 refine (hM β I w vs hw hlB hi hR).mono fun e w' ⟨β',I',v,q1,q2,q3,q4⟩=>?_
 obtain ⟨f1,f2,f3,f4,f5,f6,f7,f8,f9⟩:=q4
 have r0:RepAt (lentE 1 w I β h0) (AS.mk [(0,r)] h1).den {tmps:=#[v],defers:=[]} w' β' I':=by
  refine ⟨fun i=>?_,q3,⟨f1,f2,f3,f4,f5,f6,f7,f8,f9⟩,rfl,rfl⟩
  show R β' (dom (hg h1)) I' w'.heap true (if 0=i then r else .top) _
  split
  ·rename_i e;subst e;exact q2
  ·exact .top _ _
 obtain ⟨β3,I3,r3⟩:=hs _ pinK_lent _ _ ⟨β',I',r0⟩
 have t0:=r3.tmps 0
 obtain ⟨g1,g2,g3,g4,g5,g6,g7,g8,g9⟩:=r3.fr
 exact ⟨β3,I3,v,q1,t0,r3.inv,⟨g1,g2,g3,g4,g5,g6,g7,g8,g9⟩⟩
theorem mut_frzD {As:List AV} {h0 h1 h2:List (Nat×GE)} {r r2:AV} (fs:List (Nat×GE)) (hM:MutC P W f As h0 (.ret r h1)) (hfs:∀ p ∈ fs,hg h1 p.1=some p.2/\Frzable p.2) (e:clA fs r=r2)
 (hp:pruneK (h0.map (·.1)) [0] ⟨[(0,r2)],frzL1 fs h1⟩=some ⟨[(0,r2)],h2⟩):MutC P W f As h0 (.ret r2 h2):=by
 subst e
 exact mut_subK (mut_frz fs hM hfs) (pruneK_ok hp)
end
def noC:CallF:=fun _ _ _ _=>none
def liftS (ds:List (FuncId×List AV)):Res (XEnd×AS)->Res (XEnd×List (FuncId×List AV)×AS)
 | .ok ((e,σ),as,cs)=>.ok ((e,ds,σ),as,cs)
 | .error e=>.error e
def stopR (P:Program) (b N:Nat) (ops:List Oper) (draw:Bool) (ds:List (FuncId×List AV)) (σ:AS) (as:List Ans) (cs:List Prop):Res (XEnd×List (FuncId×List AV)×AS) :=
 match xregT P noC b N ops draw ds σ with
 | some q=>.ok (q,as,cs)
 | none=>bad 931
def stop (P:Program) (W:World) (G:Cfg) (cf:CallS) (b N:Nat):Nat->Code->List (FuncId×List AV)->AS->List Ans->List Prop->Res (XEnd×List (FuncId×List AV)×AS)
 | 0,_,_,_,_,_=>bad 930
 | n+1,.seq x y,ds,σ,as,cs =>
  match stop P W G cf b N n x ds σ as cs with
  | .ok ((.normal,ds1,σ1),as1,cs1)=>stop P W G cf b N n y ds1 σ1 as1 cs1
  | r=>r
 | n+1,.region id ops draw,ds,σ,as,cs =>
  match anyDef ops.toList with
  | true=>stopR P b N ops.toList draw ds σ as cs
  | false=>liftS ds (scode P W G cf (σ.h.map (·.1)) b N (n+1) (.region id ops draw) σ as cs)
 | n+1,c,ds,σ,as,cs=>liftS ds (scode P W G cf (σ.h.map (·.1)) b N n c σ as cs)
section
variable {P:Program} {W:World} {G:Cfg} {cf:CallS} {b N:Nat}
end
end Go.Ac

namespace Go.Ac
open Go
def cutR (ks:List Nat):Res (XEnd×AS)->Res (XEnd×AS)
 | .ok ((e,σ),as,cs)=>.ok ((e,⟨keepS ks σ.t,σ.h⟩),as,cs)
 | .error e=>.error e
def sbodyK (P:Program) (W:World) (G:Cfg) (f k:Nat) (kp ks:List Nat) (σ:AS) (q:List Ans):Res (XEnd×AS):=cutR ks (sbodyM P W G f k kp σ q)
theorem body_of_sbodyK {P:Program} {W:World} {G:Cfg} {f k:Nat} {kp ks:List Nat} {σ σ2 σ3:AS} {q r:List Ans} {e:XEnd} {cs:List Prop} (hm:P.follows .mixedOrders=true) (hx:sbodyK P W G f k kp ks σ q=.ok ((e,σ2),r,cs)) (hc:Holds cs) (φ ph:List (Nat×Nat)) (hp:MatchK kp φ ph σ2 σ3) :
 BodyC P W kp (nslots P f) (loopOf P f k) σ e σ3:=by
 unfold sbodyK cutR at hx
 split at hx
 ·rename_i e1 σ1 as cs1 h1
  cases hx
  exact body_sub (SubK.refl _ _) ((scode_ok hm (sfun_ok hm 1000 8) 1000).1 _ σ σ1 e _ _ [] _ h1 hc).2 ((sub_keepS kp ks σ1).trans (sub_match hp))
 ·cases hx
end Go.Ac

namespace Go.Ac
open Go
end Go.Ac

namespace Go.Ac
open Go
section
variable {P:Program} {W:World} {f:FuncId}
end
end Go.Ac

namespace Go.Ac
open Go
end Go.Ac

namespace Go.Ac
open Go
set_option maxRecDepth 4000
def JV.mem (j:JV):Nat:=if j.items.length<j.names.length then j.items.length else j.names.length
def placeL (s:List UInt8):List (List UInt8)->Nat->Nat->Int
 | _,0,_=>-1
 | [],_,_=>-1
 | x::l,n+1,i=>if x=s then i else placeL s l n (i+1)
def JV.place (j:JV) (s:List UInt8):Int:=placeL s j.names j.mem 0
end Go.Ac

namespace Go.Ac
open Go
set_option maxRecDepth 4000
end Go.Ac

namespace Go.Ac
open Go
theorem wrap_succ {i:Nat} (h:i<2 ^ 62):IntKind.i64.wrap ((i:Int)+1)=((i+1:Nat):Int):=by rw [wrap_in (by omega)];rfl
end Go.Ac

