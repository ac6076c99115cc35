/- What is proved: plain functions of documents, paths and queries; more of how told runs are read. No condition beyond those that each theorem names. -/
import Derived.Test.YtncgllgnilhcjaaGreatDoorMa5
import Derived.Lib.Bytealg
set_option linter.all false
namespace Go.Ac
open Go
section
variable {P:Program} {W:World} {f:FuncId}
theorem mut_of_pureFlat {As:List AV} {h:List (Nat×GE)} {r:AV} (hfz:∀ p ∈ h,hg h p.1=some p.2/\Frzable p.2) (hb:bigAll h=true) (hcl:cloL (clL h As)=true) (hfl:r.flt=true) (hc:Pure P W f (clL h As) r):MutC P W f As h (.ret r h):=by
 intro β I w vs hw hlB hi hR
 have ra:=rep0H (N:=As.length) hi hR (Nat.le_refl _) (bigAll_spec hb)
 obtain ⟨r2,hR2⟩:=args_closed ra (fs:=h) (fun p hp=>(hfz p hp).1) (fun p hp=>(hfz p hp).2) hR (LeL.refl _) hcl
 refine (hc β _ _ w vs hw r2.inv.imm hR2).mono ?_
 rintro e w' ⟨I',v,he,hv,hx⟩
 have hx2:Ext I (fun b=>I b\/(I' b/\w.heap.size<=b)) w w' :=
  ⟨hx.heap,hx.size,hx.os,hx.tape,hx.output,fun b hb=>.inl hb,fun b hb=>by
   rcases hb with hb|⟨hb,hle⟩
   ·have:=ra.inv.imm b hb;have:=hx.size;exact ⟨by omega,fun _=>hb⟩
   ·exact ⟨(hx.new b hb).1,fun h=>by omega⟩⟩
 have rb:=ra.ext hx2 (dst:=none) (res:=r) (v:=v) (by intro d hd;cases hd) (hv.flt hfl true)
 obtain ⟨f1,f2,f3,f4,f5,f6,f7,f8,f9⟩:=rb.fr
 exact ⟨β,_,v,he,hv.flt hfl true,rb.inv,⟨f1,f2,f3,f4,f5,f6,f7,f8,f9⟩⟩
theorem mut_subK {As:List AV} {h0 h1 h2:List (Nat×GE)} {r r2:AV} (hM:MutC P W f As h0 (.ret r h1)) (hs:SubK (h0.map (·.1)) ⟨[(0,r)],h1⟩ ⟨[(0,r2)],h2⟩):MutC P W f As h0 (.ret r2 h2):=by
 intro β I w vs hw hlB hi hR
 refine (hM β I w vs hw hlB hi hR).mono fun e w' ⟨β',I',v,q1,q2,q3,q4⟩=>?_
 obtain ⟨f1,f2,f3,f4,f5,f6,f7,f8,f9⟩:=q4
 have r0:RepAt (lentE 1 w I β h0) (AS.mk [(0,r)] h1).den {tmps:=#[v],defers:=[]} w' β' I':=by
  refine ⟨fun i=>?_,q3,⟨f1,f2,f3,f4,f5,f6,f7,f8,f9⟩,rfl,rfl⟩
  show R β' (dom (hg h1)) I' w'.heap true (if 0=i then r else .top) _
  split
  ·rename_i e;subst e;exact q2
  ·exact .top _ _
 obtain ⟨β3,I3,r3⟩:=hs _ pinK_lent _ _ ⟨β',I',r0⟩
 have t0:=r3.tmps 0
 obtain ⟨g1,g2,g3,g4,g5,g6,g7,g8,g9⟩:=r3.fr
 exact ⟨β3,I3,v,q1,t0,r3.inv,⟨g1,g2,g3,g4,g5,g6,g7,g8,g9⟩⟩
theorem mut_match {As:List AV} {h0 h1 h2:List (Nat×GE)} {r r2:AV} (f' ph:List (Nat×Nat)) (hM:MutC P W f As h0 (.ret r h1)) (hs:MatchK (h0.map (·.1)) f' ph ⟨[(0,r)],h1⟩ ⟨[(0,r2)],h2⟩):MutC P W f As h0 (.ret r2 h2):=mut_subK hM (sub_match hs)
theorem mut_frzD {As:List AV} {h0 h1 h2:List (Nat×GE)} {r r2:AV} (fs:List (Nat×GE)) (hM:MutC P W f As h0 (.ret r h1)) (hfs:∀ p ∈ fs,hg h1 p.1=some p.2/\Frzable p.2) (e:clA fs r=r2)
 (hp:pruneK (h0.map (·.1)) [0] ⟨[(0,r2)],frzL1 fs h1⟩=some ⟨[(0,r2)],h2⟩):MutC P W f As h0 (.ret r2 h2):=by
 subst e
 exact mut_subK (mut_frz fs hM hfs) (pruneK_ok hp)
end
def noC:CallF:=fun _ _ _ _=>none
def liftS (ds:List (FuncId×List AV)):Res (XEnd×AS)->Res (XEnd×List (FuncId×List AV)×AS)
 | .ok ((e,σ),as,cs)=>.ok ((e,ds,σ),as,cs)
 | .error e=>.error e
def stopR (P:Program) (b N:Nat) (ops:List Oper) (draw:Bool) (ds:List (FuncId×List AV)) (σ:AS) (as:List Ans) (cs:List Prop):Res (XEnd×List (FuncId×List AV)×AS) :=
 match xregT P noC b N ops draw ds σ with
 | some q=>.ok (q,as,cs)
 | none=>bad 931
def stop (P:Program) (W:World) (G:Cfg) (cf:CallS) (b N:Nat):Nat->Code->List (FuncId×List AV)->AS->List Ans->List Prop->Res (XEnd×List (FuncId×List AV)×AS)
 | 0,_,_,_,_,_=>bad 930
 | n+1,.seq x y,ds,σ,as,cs =>
  match stop P W G cf b N n x ds σ as cs with
  | .ok ((.normal,ds1,σ1),as1,cs1)=>stop P W G cf b N n y ds1 σ1 as1 cs1
  | r=>r
 | n+1,.region id ops draw,ds,σ,as,cs =>
  match anyDef ops.toList with
  | true=>stopR P b N ops.toList draw ds σ as cs
  | false=>liftS ds (scode P W G cf (σ.h.map (·.1)) b N (n+1) (.region id ops draw) σ as cs)
 | n+1,c,ds,σ,as,cs=>liftS ds (scode P W G cf (σ.h.map (·.1)) b N n c σ as cs)
section
variable {P:Program} {W:World} {G:Cfg} {cf:CallS} {b N:Nat}
end
end Go.Ac

namespace Go.Ac
open Go
def cutR (ks:List Nat):Res (XEnd×AS)->Res (XEnd×AS)
 | .ok ((e,σ),as,cs)=>.ok ((e,⟨keepS ks σ.t,σ.h⟩),as,cs)
 | .error e=>.error e
def sbodyK (P:Program) (W:World) (G:Cfg) (f k:Nat) (kp ks:List Nat) (σ:AS) (q:List Ans):Res (XEnd×AS):=cutR ks (sbodyM P W G f k kp σ q)
theorem body_of_sbodyK {P:Program} {W:World} {G:Cfg} {f k:Nat} {kp ks:List Nat} {σ σ2 σ3:AS} {q r:List Ans} {e:XEnd} {cs:List Prop} (hm:P.follows .mixedOrders=true) (hx:sbodyK P W G f k kp ks σ q=.ok ((e,σ2),r,cs)) (hc:Holds cs) (φ ph:List (Nat×Nat)) (hp:MatchK kp φ ph σ2 σ3) :
 BodyC P W kp (nslots P f) (loopOf P f k) σ e σ3:=by
 unfold sbodyK cutR at hx
 split at hx
 ·rename_i e1 σ1 as cs1 h1
  cases hx
  exact body_sub (SubK.refl _ _) ((scode_ok hm (sfun_ok hm 1000 8) 1000).1 _ σ σ1 e _ _ [] _ h1 hc).2 ((sub_keepS kp ks σ1).trans (sub_match hp))
 ·cases hx
end Go.Ac

namespace Go.Ac
open Go
end Go.Ac

namespace Go.Ac
open Go
section
variable {P:Program} {W:World} {f:FuncId}
end
end Go.Ac

namespace Go.Ac
open Go
end Go.Ac

namespace Go.Ac
open Go
set_option maxRecDepth 4000
def JV.mem (j:JV):Nat:=if j.items.length<j.names.length then j.items.length else j.names.length
theorem JV.mem_names (j:JV):j.mem<=j.names.length:=by unfold JV.mem;split<;>omega
theorem JV.mem_items (j:JV):j.mem<=j.items.length:=by unfold JV.mem;split<;>omega
def placeL (s:List UInt8):List (List UInt8)->Nat->Nat->Int
 | _,0,_=>-1
 | [],_,_=>-1
 | x::l,n+1,i=>if x=s then i else placeL s l n (i+1)
def JV.place (j:JV) (s:List UInt8):Int:=placeL s j.names j.mem 0
def dig (b:UInt8):Bool:=decide (48<=b.toNat) && decide (b.toNat<=57)
def numL:List UInt8->Nat->Nat
 | [],a=>a
 | b::l,a=>numL l (10 * a+(b.toNat - 48))
def idxOk (s:List UInt8):Bool:=decide (1<=s.length) && decide (s.length<=9) && !(decide (1<s.length) && decide ((s.headD 0).toNat=48)) && s.all dig
def idx (s:List UInt8):Nat:=if idxOk s=true then numL s 0 else 0
def idxA (s:List UInt8):AV:=.tup [iA (idx s),bA (idxOk s)]
theorem idxA_bad {s:List UInt8} (h:idxOk s=false):AV.tup [.val (.int .i64 0),.val (.bool false)]=idxA s:=by
 simp [idxA,idx,h,iA,bA]
theorem idxA_good {s:List UInt8} {n:Int} (h:idxOk s=true) (hn:n=numL s 0):AV.tup [.val (.int .i64 n),.val (.bool true)]=idxA s:=by
 subst hn;simp [idxA,idx,h,iA,bA]
theorem numL_append:∀ (l m:List UInt8) (a:Nat),numL (l++m) a=numL m (numL l a)
 | [],m,a=>rfl
 | b::l,m,a=>by simp only [List.cons_append,numL,numL_append l m]
theorem numL_lt:∀ (l:List UInt8) (a:Nat),l.all dig=true->numL l a<(a+1) * 10 ^ l.length
 | [],a,_=>by simp [numL]
 | b::l,a,h=>by
  simp only [List.all_cons,Bool.and_eq_true] at h
  have h1:=h.1
  simp only [dig,Bool.and_eq_true,decide_eq_true_eq] at h1
  have:=numL_lt l (10 * a+(b.toNat - 48)) h.2
  refine Nat.lt_of_lt_of_le this ?_
  simp only [List.length_cons,Nat.pow_succ]
  calc (10 * a+(b.toNat - 48)+1) * 10 ^ l.length<=(10 * (a+1)) * 10 ^ l.length:=Nat.mul_le_mul_right _ (by omega)
   _=(a+1) * (10 ^ l.length * 10):=by rw [Nat.mul_comm 10 (a+1),Nat.mul_assoc,Nat.mul_comm 10]
theorem numL_take_lt (s:List UInt8) (i:Nat) (hl:s.length<=9) (h:(s.take i).all dig=true):numL (s.take i) 0<10 ^ 9:=by
 have h1:=numL_lt (s.take i) 0 h
 have h2:10 ^ (s.take i).length<=10 ^ 9:=Nat.pow_le_pow_right (by omega) (by simp;omega)
 omega
theorem idxOk_short {s:List UInt8} (h:(s.length:Int)<1):idxOk s=false:=by
 have:¬ 1<=s.length:=by omega
 simp [idxOk,this]
theorem idxOk_long {s:List UInt8} (h:9<(s.length:Int)):idxOk s=false:=by
 have:¬ s.length<=9:=by omega
 simp [idxOk,this]
theorem idxOk_zero {s:List UInt8} (h:1<(s.length:Int)) (h2:((s.headD 0).toNat:Int)=48):idxOk s=false:=by
 have h:1<s.length:=by omega
 have h2:(s.headD 0).toNat=48:=by omega
 simp only [idxOk,h,h2,decide_true,Bool.and_true,Bool.not_true,Bool.and_false,Bool.false_and]
theorem idxOk_dig {s:List UInt8} {i:Nat} {x:UInt8} (hx:s[i]?=some x) (h:dig x=false):idxOk s=false:=by
 have:s.all dig=false:=by
  rw [List.all_eq_false]
  exact ⟨x,List.mem_of_getElem? hx,by simp [h]⟩
 simp [idxOk,this]
theorem idxOk_good {s:List UInt8} (h1:¬ (s.length:Int)<1) (h2:¬ 9<(s.length:Int)) (h3:¬ (1<(s.length:Int))\/¬ ((s.headD 0).toNat:Int)=48) (h:s.all dig=true):idxOk s=true:=by
 simp only [idxOk,h,Bool.and_true,Bool.and_eq_true,decide_eq_true_eq,Bool.not_eq_true',Bool.and_eq_false_iff,decide_eq_false_iff_not]
 omega
theorem dig_in {x:UInt8} (h1:¬ (x.toNat:Int)<48) (h2:¬ 57<(x.toNat:Int)):dig x=true:=by
 simp only [dig,Bool.and_eq_true,decide_eq_true_eq];omega
theorem all_take {s:List UInt8} {i:Nat} {x:UInt8} (hx:s[i]?=some x) (h:(s.take i).all dig=true) (hd:dig x=true):(s.take (i+1)).all dig=true:=by
 rw [take_snoc hx,List.all_append,h];simp [hd]
theorem num_step {s:List UInt8} {i:Nat} {x:UInt8} (hx:s[i]?=some x) (hl:¬ 9<(s.length:Int)) (h:(s.take i).all dig=true) (h1:¬ (x.toNat:Int)<48) (h2:¬ 57<(x.toNat:Int)) :
 IntKind.i64.wrap (IntKind.i64.wrap (10 * (numL (s.take i) 0:Int))+IntKind.i64.wrap (IntKind.u8.wrap ((x.toNat:Int) - 48)))=(numL (s.take (i+1)) 0:Nat):=by
 have hb:=numL_take_lt s i (by omega) h
 rw [IntWalk.u8_in _ (by omega),IntWalk.i64_in ((x.toNat:Int) - 48) (by omega),IntWalk.i64_in (10 * _) (by omega),IntWalk.i64_in _ (by omega),take_snoc hx,numL_append]
 simp only [numL];omega
theorem idxOk_zero2 {s:List UInt8} (h0:¬ (s.length:Int)<1) (h:¬ s=[48]) (h2:((s.headD 0).toNat:Int)=48):idxOk s=false:=by
 refine idxOk_zero ?_ h2
 cases s with
 | nil=>simp at h0
 | cons b l =>
  cases l with
  | nil =>
   exfalso;apply h
   simp only [List.headD_cons] at h2
   have:b.toNat=(48:UInt8).toNat:=by have:(48:UInt8).toNat=48:=rfl;omega
   rw [UInt8.toNat_inj.1 this]
  | cons c l=>simp only [List.length_cons];omega
theorem indexByte_neg (c:UInt8):∀ s:List UInt8,Lib.indexByte s c<0 ↔ c ∉ s
 | []=>by simp [Lib.indexByte]
 | x::l=>by
  have ih:=indexByte_neg c l
  simp only [Lib.indexByte]
  by_cases h:x=c
  ·simp [h]
  ·have h2:¬ c=x:=fun e=>h e.symm
   simp only [h,beq_iff_eq,if_false,List.mem_cons,h2,false_or,<-ih]
   split<;>omega
def splitD (c:UInt8):List UInt8->List (List UInt8)
 | []=>[[]]
 | x::l=>if x=c then []::splitD c l else match splitD c l with|[]=>[[x]]|y::r=>(x::y)::r
theorem splitD_ne (c:UInt8):∀ s:List UInt8,splitD c s ≠ []
 | []=>by simp [splitD]
 | x::l=>by
  simp only [splitD]
  split
  ·simp
  ·split<;>simp
theorem splitD_one (c:UInt8):∀ s:List UInt8,Lib.indexByte s c<0->splitD c s=[s]
 | [],_=>rfl
 | x::l,h=>by
  have hm:=(indexByte_neg c (x::l)).1 h
  simp only [List.mem_cons,not_or] at hm
  simp only [splitD]
  rw [if_neg (fun e=>hm.1 e.symm),splitD_one c l ((indexByte_neg c l).2 hm.2)]
theorem splitD_cut (c:UInt8):∀ (s:List UInt8) (m:Nat),Lib.indexByte s c=m->splitD c s=s.take m::splitD c (s.drop (m+1))/\m<s.length
 | [],m,h=>by simp [Lib.indexByte] at h
 | x::l,m,h=>by
  simp only [Lib.indexByte] at h
  by_cases hx:x=c
  ·simp only [hx,beq_self_eq_true,if_true] at h
   have:m=0:=by omega
   subst this
   simp [splitD,hx]
  ·simp only [hx,beq_iff_eq,if_false] at h
   cases m with
   | zero=>split at h<;>omega
   | succ m =>
    obtain ⟨h1,h2⟩:=splitD_cut c l m (by split at h<;>omega)
    simp only [splitD,if_neg hx,h1,List.take_succ_cons,List.drop_succ_cons,List.length_cons]
    exact ⟨trivial,by omega⟩
theorem splitD_len (c:UInt8):∀ s:List UInt8,(splitD c s).length=Lib.countByte s c+1
 | []=>rfl
 | x::l=>by
  have ih:=splitD_len c l
  have hne:=splitD_ne c l
  simp only [splitD,Lib.countByte,List.count_cons] at ih ⊢
  by_cases hx:x=c
  ·simp [hx,ih]
  ·simp only [hx,if_false,beq_iff_eq,Nat.add_zero]
   split
   ·rename_i e;exact absurd e hne
   ·rename_i y r e;rw [e] at ih;simpa using ih
theorem countByte_le (s:List UInt8) (c:UInt8):Lib.countByte s c<=s.length:=List.count_le_length
theorem u8_eq (c d:UInt8) (n:Int) (h:(d.toNat:Int)=n):(c.toNat:Int)=n ↔ c=d:=by
 subst h
 exact ⟨fun e=>UInt8.toNat_inj.1 (by omega),fun e=>by rw [e]⟩
def segB (s:List UInt8):Bool:=decide (1<=s.length) && decide (s.length<=64) && !(decide (46 ∈ s)) && !(decide (s[0]?=some 36))
theorem segB_cons (c:UInt8) (s:List UInt8):segB (c::s)=(decide (s.length+1<=64) && decide (Lib.indexByte (c::s) 46<0) && !decide ((c.toNat:Int)=36)):=by
 have h3:=u8_eq c 36 36 rfl
 have h1:=indexByte_neg 46 (c::s)
 unfold segB
 rw [Bool.eq_iff_iff]
 simp only [Bool.and_eq_true,decide_eq_true_eq,Bool.not_eq_true',decide_eq_false_iff_not,List.length_cons,List.getElem?_cons_zero,Option.some.injEq,h1,h3]
 constructor
 ·rintro ⟨⟨⟨_,a⟩,b⟩,d⟩;exact ⟨⟨a,b⟩,d⟩
 ·rintro ⟨⟨a,b⟩,d⟩;exact ⟨⟨⟨by omega,a⟩,b⟩,d⟩
theorem splitD_part (c:UInt8):∀ s:List UInt8,∀ x ∈ splitD c s,x.length<=s.length
 | [],x,h=>by simp [splitD] at h;simp [h]
 | y::l,x,h=>by
  have ih:=splitD_part c l
  simp only [splitD] at h
  split at h
  ·rcases List.mem_cons.1 h with rfl|h
   ·simp
   ·have:=ih x h;simp only [List.length_cons];omega
  ·split at h
   ·rcases List.mem_singleton.1 h with rfl;simp
   ·rename_i z r e
    rw [e] at ih
    rcases List.mem_cons.1 h with rfl|h
    ·have:=ih z (by simp);simp only [List.length_cons];omega
    ·have:=ih x (by simp [h]);simp only [List.length_cons];omega
def scanV:List (List UInt8)->Nat->Int->Option Int
 | [],_,_=>none
 | s::l,n,t=>if segB s=false\/n=16 then some t else scanV l (n+1) (t+(s.length+1))
def parseP (s:List UInt8):List (List UInt8):=match scanV (splitD 46 s) 0 0 with|none=>splitD 46 s|some _=>[]
def parseE (s:List UInt8):Int:=match scanV (splitD 46 s) 0 0 with|none=>0|some _=>20
def parseA (s:List UInt8):Int:=match scanV (splitD 46 s) 0 0 with|none=>0|some t=>t
theorem take_pad {A:List (List UInt8)} {i n:Nat} {x:List UInt8} (h:A[i]?=some x) (hi:i<n):((A.take i).map AV.str++List.replicate (n - i) (AV.str [])).set i (.str x)=(A.take (i+1)).map AV.str++List.replicate (n - (i+1)) (AV.str []):=by
 have hl:i<A.length:=(List.getElem?_eq_some_iff.1 h).1
 rw [List.set_append]
 rw [if_neg (by simp;omega)]
 have e:n - i=(n - (i+1))+1:=by omega
 rw [e,List.replicate_succ]
 have e2:i - ((A.take i).map AV.str).length=0:=by simp;omega
 rw [e2,List.set_cons_zero,List.take_add_one,h]
 simp
theorem pad_get {A:List (List UInt8)} {i n:Nat} (h:i<n) (hn:n<=A.length):((A.take i).map AV.str++List.replicate (n - i) (AV.str []))[i]?=some (.str []):=by
 rw [List.getElem?_append_right (by simp;omega)]
 have e:n - i=(n - (i+1))+1:=by omega
 have e2:i - ((A.take i).map AV.str).length=0:=by simp;omega
 rw [e,e2,List.replicate_succ];rfl
theorem splitD_single (c:UInt8) (s:List UInt8) (h:(splitD c s).length=1):splitD c s=[s]:=by
 rcases Int.lt_or_le (Lib.indexByte s c) 0 with h1|h1
 ·exact splitD_one c s h1
 ·obtain ⟨m,hm⟩:=Int.eq_ofNat_of_zero_le h1
  have:=(splitD_cut c s m hm).1
  rw [this] at h
  have h2:=splitD_ne c (s.drop (m+1))
  simp at h
  exact absurd h h2
theorem scan_step {A:List (List UInt8)} {i:Nat} {t:Int} {x:List UInt8} (hx:A[i]?=some x) (h:¬ (segB x=false\/i=16)):scanV (A.drop i) i t=scanV (A.drop (i+1)) (i+1) (t+(x.length+1)):=by
 rw [drop_get hx,scanV,if_neg h]
theorem scan_stop {A:List (List UInt8)} {i:Nat} {t:Int} {x:List UInt8} (hx:A[i]?=some x) (h:segB x=false\/i=16):scanV (A.drop i) i t=some t:=by
 rw [drop_get hx,scanV,if_pos h]
def clashB:List (List UInt8)->List (List UInt8)->Bool
 | [],_=>true
 | _,[]=>true
 | x::l,y::k=>if x=y then clashB l k else false
end Go.Ac

namespace Go.Ac
open Go
set_option maxRecDepth 4000
end Go.Ac

namespace Go.Ac
open Go
theorem wrap_succ {i:Nat} (h:i<2 ^ 62):IntKind.i64.wrap ((i:Int)+1)=((i+1:Nat):Int):=by rw [wrap_in (by omega)];rfl
theorem ixbB_eq (P:Program) (a:List UInt8) (c:UInt8):ixbB a c=Lib.indexByte a c:=by
 have h1:=Lib.run_indexByteString (P:=P) ⟨a.toArray⟩ (c.toNat:Int) (default:World)
 have h2:(Extern.BytealgIndexByte.indexByte #[.string ⟨a.toArray⟩,.int .u8 (c.toNat:Int)]).run P (default:World)=.ok (.int .i64 (ixbB a (UInt8.ofNat ((c.toNat:Int)).toNat))) (default:World):=by
  have:Extern.BytealgIndexByte.indexByte #[.string ⟨a.toArray⟩,.int .u8 (c.toNat:Int)]=(do let b <-Extern.Bytes.bytesOf (.string ⟨a.toArray⟩);let c <-Extern.Bytes.asByte (.int .u8 (c.toNat:Int));(match (List.range b.size).find? fun i=>b[i]! == c with|some i=>pure (goInt i)|none=>pure (goInt (-1)))):=rfl
  rw [this]
  simp only [Extern.Bytes.bytesOf,Extern.Bytes.asByte,Sem.run_bind,Sem.run_pure,Result.andThen_ok,ixbB,ixbA]
  have e0:((c.toNat:Int)).toNat.toUInt8=UInt8.ofNat ((c.toNat:Int)).toNat:=rfl
  rw [e0]
  cases (List.range (ByteArray.mk a.toArray).size).find? fun i=>(ByteArray.mk a.toArray)[i]! == UInt8.ofNat ((c.toNat:Int)).toNat<;>rfl
 rw [h2] at h1
 have e:UInt8.ofNat ((c.toNat:Int)).toNat=c:=by simp
 have e':((c.toNat:Int)).toNat.toUInt8=c:=by simp
 rw [e,e'] at h1
 simpa using h1
theorem cntB_eq (P:Program) (a:List UInt8) (c:UInt8):cntB a c=Lib.countByte a c:=by
 have h1:=Lib.run_countString (P:=P) ⟨a.toArray⟩ (c.toNat:Int) (default:World)
 have h2:(Extern.BytealgCount.count #[.string ⟨a.toArray⟩,.int .u8 (c.toNat:Int)]).run P (default:World)=.ok (.int .i64 (cntB a (UInt8.ofNat ((c.toNat:Int)).toNat))) (default:World):=by
  have:Extern.BytealgCount.count #[.string ⟨a.toArray⟩,.int .u8 (c.toNat:Int)]=(do let b <-Extern.Bytes.bytesOf (.string ⟨a.toArray⟩);let c <-Extern.Bytes.asByte (.int .u8 (c.toNat:Int));pure (goInt (b.foldl (fun n x=>if x == c then n+1 else n) (0:Nat)))):=rfl
  rw [this]
  simp [Extern.Bytes.bytesOf,Extern.Bytes.asByte,goInt,cntB]
 rw [h2] at h1
 have e:UInt8.ofNat ((c.toNat:Int)).toNat=c:=by simp
 have e':((c.toNat:Int)).toNat.toUInt8=c:=by simp
 rw [e,e'] at h1
 simpa using h1
end Go.Ac

