/- What is proved: contracts of functions of this translation, walked; their plain meaning. No condition beyond those that each theorem names. -/
import Derived.Test.YtohlmhkiejpkgaaGreatDoorFm4
set_option linter.all false
namespace Go.Ac
open Go Go.Proofs
set_option maxRecDepth 10000
set_option maxHeartbeats 2000000
noncomputable def hF (n:Nat) (d:JV) (p:List UInt8×JV):Bool :=
 if joinsB p.1 then
  (if p.1=sAnd then p.2.items.all (fun y=>matchF n y d) else if p.1=sOr then p.2.items.any (fun y=>matchF n y d) else !(p.2.items.any (fun y=>matchF n y d)))
 else if isTestB p.2 then allF n p.2 (allV d (parseP p.1)) else eqG p.2 (allV d (parseP p.1))
theorem matchF_eq (n:Nat) (q d:JV):matchF (n+1) q d=q.mems.all (hF n d):=by rw [matchF];rfl
theorem tn_all:∀ (p:List (List UInt8)) (v:JV),tnV v->tnVs (allV v p)
 | [],v,h=>by rw [allV];exact ⟨h,trivial⟩
 | s::p,v,h=>by
  have one:∀ u,tnV u->tnVs (oneV u s (fun y=>allV y p)):=fun u hu=>by
   unfold oneV
   split
   ·trivial
   ·split
    ·rename_i x hx;exact tn_all p x (tn_item hu (List.mem_of_getElem? hx))
    ·trivial
  rw [allV]
  split
  ·have:∀ l:List JV,tnVs l->tnVs (l.flatMap fun x=>if x.kind=6 then oneV x s (fun y=>allV y p) else []):=by
    intro l
    have app:∀ a b:List JV,tnVs a->tnVs b->tnVs (a++b):=by
     intro a
     induction a with
     | nil=>intro b _ hb;exact hb
     | cons x a ih=>intro b ha hb;exact ⟨ha.1,ih b ha.2 hb⟩
    induction l with
    | nil=>intro _;trivial
    | cons x l ih =>
     intro hl
     rw [List.flatMap_cons]
     refine app _ _ ?_ (ih hl.2)
     split
     ·exact one x hl.1
     ·trivial
   exact this v.items (tn_items h)
  ·exact one v h
theorem countP_all {α:Type} (f:α->Bool) (l:List α):decide (((l.countP f:Nat):Int)=(l.length:Int))=l.all f:=by
 have h:=List.countP_eq_length (p:=f) (l:=l)
 by_cases e:l.countP f=l.length
 ·rw [decide_eq_true (by omega)]
  exact (List.all_eq_true.2 fun a ha=>h.1 e a ha).symm
 ·rw [decide_eq_false (by omega)]
  symm
  rw [<-Bool.not_eq_true]
  intro hh
  exact e (h.2 fun a ha=>List.all_eq_true.1 hh a ha)
theorem countP_any {α:Type} (f:α->Bool) (l:List α):decide (0<((l.countP f:Nat):Int))=l.any f:=by
 have h:=List.countP_pos_iff (p:=f) (l:=l)
 by_cases e:0<l.countP f
 ·rw [decide_eq_true (by omega)]
  exact (List.any_eq_true.2 (h.1 e)).symm
 ·rw [decide_eq_false (by omega)]
  symm
  rw [<-Bool.not_eq_true]
  intro hh
  exact e (h.2 (List.any_eq_true.1 hh))
theorem countP_none {α:Type} (f:α->Bool) (l:List α):decide (((l.countP f:Nat):Int)=0)=!(l.any f):=by
 rw [<-countP_any f l]
 by_cases e:l.countP f=0
 ·rw [e];rfl
 ·rw [decide_eq_false (by omega),decide_eq_true (by omega)];rfl
section
variable (W:World)
theorem cnt66 (s:List UInt8) (x d:JV) (f:JV->Bool) (hj:joinsB s=true) (hln:x.items.length<=2 ^ 30) (hf:∀ y ∈ x.items,Pure Tryz.prog W 21 [encV y,encV d] (bA (f y))):∀ (k i:Nat),x.items.length - i=k->i<=x.items.length →
 LoopC Tryz.prog W [] (nslots Tryz.prog 66) (loopOf Tryz.prog 66 0) (S66 s x.hd d.hd x.items d.items ((x.items.take i).countP f) i) (.exit 0) (E66 s x.hd d.hd x.items d.items (x.items.countP f)):=by
 intro k
 have hc1:=mut_of_pure (by rfl) (joins70 W s)
 rw [hj] at hc1
 induction k with
 | zero =>
  intro i hk hle
  have e:i=x.items.length:=by omega
  subst e
  rw [List.take_length]
  have hil:decide (((x.items.length:Nat):Int)<((encVs x.items).length:Int))=false:=by rw [encVs_len];exact decide_eq_false (by omega)
  exact loop_last (by simp) (body_of_sbodyK mixedz (b66_2 W s x.hd d.hd x.items d.items x.items.length (x.items.countP f) true) Fm2_z2 [] [] Fm2_z1)
 | succ k ih =>
  intro i hk hle
  obtain ⟨y,hy⟩:=getOf (l:=x.items) (i:=i) (by omega)
  have hws:IntKind.i64.wrap ((i:Int)+1)=((i+1:Nat):Int):=wrap_succ (by omega)
  have hnx:=ih (i+1) (by omega) (by omega)
  have hcp:(x.items.take i).countP f<=2 ^ 30:=by have:=List.countP_le_length (p:=f) (l:=x.items.take i);simp only [List.length_take] at this;omega
  have hwn:IntKind.i64.wrap ((((x.items.take i).countP f:Nat):Int)+1)=(((x.items.take i).countP f+1:Nat):Int):=wrap_succ (by omega)
  rw [take_snoc hy,List.countP_append,List.countP_singleton] at hnx
  have hget:(encVs x.items)[((i:Int)).toNat]?=some (encV y):=by rw [Int.toNat_natCast];exact encVs_get hy
  have hil:decide ((i:Int)<((encVs x.items).length:Int))=true:=by rw [encVs_len];exact decide_eq_true (by omega)
  have hc2:=mut_of_pure (by simp only [cloL,encV_clo,Bool.and_self]) (hf y (List.mem_of_getElem? hy))
  generalize (x.items.take i).countP f=c at hnx hcp hwn ⊢
  cases hp:f y with
  | true =>
   rw [hp] at hnx hc2
   simp only [if_true] at hnx
   obtain ⟨h,k⟩:=y
   obtain ⟨hd,ld⟩:=d
   exact loop_next (body_of_sbodyK mixedz (b66_0 W s x.hd hd h x.items ld k i c true true) Fm2_z2 [] [] Fm2_z1) hnx
  | false =>
   rw [hp] at hnx hc2
   simp only [Bool.false_eq_true,if_false,Nat.add_zero] at hnx
   obtain ⟨h,k⟩:=y
   obtain ⟨hd,ld⟩:=d
   exact loop_next (body_of_sbodyK mixedz (b66_1 W s x.hd hd h x.items ld k i c false true) Fm2_z2 [] [] Fm2_z1) hnx
theorem holds66 {n:Nat} (hA:AllR W n) (hM:MatchR W n) {s:List UInt8} {x d:JV} (hs:s.length<=2 ^ 30)
 (hk:(joinsB s=true/\∀ y ∈ x.items,∃ d u u',chkQ n y d u=.ok u')\/(joinsB s=false/\dollarB s=false/\parseE s=0)) (ht:joinsB s=false->isTestB x=true->∃ d u u',chkT n x d u=.ok u')
 (hsz:sizeV x<n) (hcx:cntV x<=2 ^ 30) (htx:tnV x) (hcd:cntV d<=2 ^ 30) (htd:tnV d):Pure Tryz.prog W 66 [.str s,encV x,encV d] (bA (hF n d (s,x))):=by
 unfold hF
 rcases hk with ⟨hj,hy⟩|⟨hj,hd,hE⟩
 ·simp only [hj,if_true]
  have hln:=cntV_len x
  have hlp:=cnt66 W s x d (fun y=>matchF n y d) hj (by omega) (fun y hym=>by
   obtain ⟨d2,u,u',hu⟩:=hy y hym
   obtain ⟨k,hk⟩:=List.getElem?_of_mem hym
   have h1:=sizeV_item hk
   have h2:=cntV_item hk
   exact hM y _ _ _ hu (by omega) (by omega) (tn_item htx hym) d hcd htd) _ 0 rfl (Nat.zero_le _)
  rw [List.take_zero,List.countP_nil] at hlp
  have hjn:s=sAnd\/s=sOr\/s=sNor:=by simpa [joinsB,or_assoc] using hj
  rw [<-countP_all,<-countP_none,<-countP_any]
  rw [<-encVs_len x.items]
  generalize x.items.countP (fun y=>matchF n y d)=c at hlp ⊢
  obtain ⟨hx,lx⟩:=x
  obtain ⟨hv,lv⟩:=d
  rcases hjn with rfl|rfl|rfl
  ·rw [if_pos rfl]
   exact pure_of_mut rfl (mut_of_sfun mixedz call66 rfl (hand_0 W hx hv lx lv c) Fm2_z2)
  ·rw [if_neg (by decide),if_pos rfl]
   exact pure_of_mut rfl (mut_of_sfun mixedz call66 rfl (hor_0 W hx hv lx lv c) Fm2_z2)
  ·rw [if_neg (by decide),if_neg (by decide)]
   exact pure_of_mut rfl (mut_of_sfun mixedz call66 rfl (hnor_0 W hx hv lx lv c) Fm2_z2)
 ·simp only [hj,Bool.false_eq_true,if_false]
  have hc1:=mut_of_pure (by rfl) (joins70 W s)
  rw [hj] at hc1
  have hlp:LoopC Tryz.prog W [] (nslots Tryz.prog 66) (loopOf Tryz.prog 66 0) (S66 s x.hd d.hd x.items d.items 0 0) (.exit 0) (E66 s x.hd d.hd x.items d.items 0) :=
   loop_last (by simp) (body_of_sbodyK mixedz (b66_3 W s x.hd d.hd x.items d.items 0 0 false) Fm2_z2 [] [] Fm2_z1)
  have hc2:=parse23M W hs hE
  have hc3:=all30M W d s hcd
  have hc4:=mut_of_pure (by simp only [cloL,encV_clo,Bool.and_self]) (first74 W x)
  have hc5:=mut_of_pure (by rfl) (dollar69 W (firstS x))
  have n1:decide (s=sAnd)=false:=decide_eq_false (by rintro rfl;cases hj)
  have n2:decide (s=sOr)=false:=decide_eq_false (by rintro rfl;cases hj)
  have n3:decide (s=sNor)=false:=decide_eq_false (by rintro rfl;cases hj)
  have hcl:=allV_cnt (parseP s) d
  have htl:=tn_all (parseP s) d htd
  cases htt:isTestB x with
  | true =>
   simp only [if_true]
   obtain ⟨d2,u,u',hu⟩:=ht hj htt
   have hc6:=mut_of_pure (by simp only [cloL,encV_clo,AV.clo,Bool.and_self]) (hA x _ _ _ hu hsz hcx htx (allV d (parseP s)) (by omega) htl)
   have e1:dollarB (firstS x)=true:=htt
   rw [e1] at hc5
   generalize allF n x (allV d (parseP s))=b at hc6 ⊢
   generalize allV d (parseP s)=l at hc3 hc6
   obtain ⟨hx,lx⟩:=x
   obtain ⟨hv,lv⟩:=d
   exact pure_of_mut rfl (mut_of_sfun mixedz call66 rfl (hgen_3 W s hx hv lx lv l (parseA s) 0 b true ((parseP s).map AV.str) (firstS (.mk hx lx))) Fm2_z2)
  | false =>
   simp only [Bool.false_eq_true,if_false]
   have hc6:=opEqM W (allV d (parseP s)) (by omega) x
   have e1:dollarB (firstS x)=false:=htt
   rw [e1] at hc5
   generalize eqG x (allV d (parseP s))=b at hc6 ⊢
   generalize allV d (parseP s)=l at hc3 hc6
   obtain ⟨hx,lx⟩:=x
   obtain ⟨hv,lv⟩:=d
   exact pure_of_mut rfl (mut_of_sfun mixedz call66 rfl (hgen_4 W s hx hv lx lv l (parseA s) 0 b false ((parseP s).map AV.str) (firstS (.mk hx lx))) Fm2_z2)
theorem match21 {n:Nat} (hA:AllR W n) (hM:MatchR W n):MatchR W (n+1):=by
 intro q d c c' hk hsz hcn htn x hcx htx
 have hc1:=mut_of_pure (by simp only [cloL,encV_clo,Bool.and_self]) (members65 W q)
 have hml:=q.mems_len
 have hm1:=q.mem_names
 have hm2:=q.mem_items
 have hcl:=cntV_len q
 rw [matchF_eq,all_any]
 have round:∀ i p,q.mems[i]?=some p->∃ nm v,p=(nm,v)/\q.names[i]?=some nm/\q.items[i]?=some v/\MutC Tryz.prog W 66 [.str nm,encV v,encV x] [] (.ret (bA (hF n x (nm,v))) []):=fun i p hp=>by
  obtain ⟨nm,v⟩:=p
  have hz:=List.getElem?_zip_eq_some.1 hp
  have hpm:=List.mem_of_getElem? hp
  have s1:=sizeV_item hz.2
  have s2:=cntV_item hz.2
  simp only at s1 s2
  have hkm:=chk_mem hk hpm
  refine ⟨nm,v,rfl,hz.1,hz.2,mut_of_pure (by simp only [cloL,encV_clo,AV.clo,Bool.and_self]) (holds66 W hA hM (tn_name htn (List.mem_of_getElem? hz.1)) ?_ (fun hj ht=>chk_test hk hpm hj ht) (by omega) (by omega) (tn_item htn (List.mem_of_getElem? hz.2)) hcx htx)⟩
  rcases hkm with ⟨a,b⟩|h
  ·exact .inl ⟨a,fun y hy=>by obtain ⟨u,u',hu⟩:=b y hy;exact ⟨_,_,_,hu⟩⟩
  ·exact .inr h
 obtain ⟨hx,lx⟩:=q
 obtain ⟨hv,lv⟩:=x
 simp only [JV.names,JV.items,JV.hd] at hm1 hm2 hcl round
 generalize hm:(JV.mk hx lx).mem=m at hc1 hml hm1 hm2
 have hb:=anyLoop (P:=Tryz.prog) (W:=W) (kp:=[]) (N:=nslots Tryz.prog 21) (x:=loopOf Tryz.prog 21 0) (S:=fun i=>S21 hx hv lx lv i) (e1:=.ret) (e2:=.exit 0) (R:=T4 false) (E:=⟨[],[]⟩) (by simp) (by simp) (JV.mk hx lx).mems (fun p=>!hF n (.mk hv lv) p)
  (fun i a ha hp=>by
   have hi:=(List.getElem?_eq_some_iff.1 ha).1
   obtain ⟨nm,v,rfl,h1,h2,hc⟩:=round i a ha
   have hget:(List.map AV.str hx.names)[((i:Int)).toNat]?=some (.str nm):=by rw [Int.toNat_natCast];exact strs_get h1
   have hget2:(encVs lx)[((i:Int)).toNat]?=some (encV v):=by rw [Int.toNat_natCast];exact encVs_get h2
   generalize hF n (.mk hv lv) (nm,v)=g at hp hc
   obtain ⟨h,k⟩:=v
   exact body_of_sbodyK mixedz (b21_0 W nm hx hv h lx lv k i g m) Fm2_z2 [] [] Fm2_z1)
  (fun i a ha hp=>by
   have hi:=(List.getElem?_eq_some_iff.1 ha).1
   have hws:IntKind.i64.wrap ((i:Int)+1)=((i+1:Nat):Int):=wrap_succ (by omega)
   obtain ⟨nm,v,rfl,h1,h2,hc⟩:=round i a ha
   have hget:(List.map AV.str hx.names)[((i:Int)).toNat]?=some (.str nm):=by rw [Int.toNat_natCast];exact strs_get h1
   have hget2:(encVs lx)[((i:Int)).toNat]?=some (encV v):=by rw [Int.toNat_natCast];exact encVs_get h2
   generalize hF n (.mk hv lv) (nm,v)=g at hp hc
   obtain ⟨h,k⟩:=v
   exact body_of_sbodyK mixedz (b21_1 W nm hx hv h lx lv k i g m) Fm2_z2 [] [] Fm2_z1)
  (by rw [hml];exact body_of_sbodyK mixedz (b21_2 W hx hv lx lv m m) Fm2_z2 [] [] Fm2_z1)
 cases e:(JV.mk hx lx).mems.any (fun p=>!hF n (.mk hv lv) p) with
 | true =>
  have hlp:=hb.1 e
  exact pure_of_mut rfl (mut_of_sfun mixedz call21 rfl (r21_0 W hx hv lx lv) Fm2_z2)
 | false =>
  have hlp:=hb.2 e
  exact pure_of_mut rfl (mut_of_sfun mixedz call21 rfl (p21_0 W hx hv lx lv) Fm2_z2)
theorem bothR:∀ n,AllR W n/\MatchR W n
 | 0=>⟨fun t d c c' h hs=>by omega,fun t d c c' h hs=>by omega⟩
 | n+1=>⟨all112 W (bothR n).1 (bothR n).2,match21 W (bothR n).1 (bothR n).2⟩
end
end Go.Ac

