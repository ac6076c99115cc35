/- What is proved: contracts of functions of this translation, walked; their plain meaning. No condition beyond those that each theorem names. -/
import Derived.Test.YtohlmhkiejpkgaaGreatDoorFm3
import Derived.Test.YtohlmhkiejpkgaaGreatDoorFr2
import Derived.Test.YtohlmhkiejpkgaaGreatDoorFt2
set_option linter.all false
namespace Go.Ac
open Go Go.Proofs
set_option maxRecDepth 10000
set_option maxHeartbeats 2000000
theorem tn_items {v:JV} (h:tnV v):tnVs v.items:=by cases v;exact h.2.2
theorem tn_item {v x:JV} (h:tnV v) (hx:x ∈ v.items):tnV x:=tnVs_mem (tn_items h) x hx
theorem tn_name {v:JV} (h:tnV v) {s:List UInt8} (hs:s ∈ v.names):s.length<=2 ^ 30:=by cases v;exact h.2.1 s hs
theorem tn_tested {l:List JV} (h:tnVs l) {v:JV} (hv:v ∈ testedL l):tnV v:=by
 unfold testedL at hv
 obtain ⟨x,hx,hv⟩:=List.mem_flatMap.1 hv
 have hxt:=tnVs_mem h x hx
 split at hv
 ·rcases List.mem_cons.1 hv with rfl|hv
  ·exact hxt
  ·exact tn_item hxt hv
 ·rw [List.mem_singleton] at hv;rw [hv];exact hxt
section
variable {A:JV->List JV->Bool} {M:JV->JV->Bool} {x:JV} {l:List JV}
theorem opG_def {nm:List UInt8} (h1:nm ≠ sNe) (h2:nm ≠ sNin) (h3:nm ≠ sNot) (h4:nm ≠ sEq) (h5:nm ≠ sIn) (h6:nm ≠ sAll) (h7:nm ≠ sExists) (h8:nm ≠ sSize) (h9:nm ≠ sElem):opG A M nm x l=(testedL l).any (oneG nm x):=by
 rw [opG,if_neg h1,if_neg h2,if_neg h3,if_neg h4,if_neg h5,if_neg h6,if_neg h7,if_neg h8,if_neg h9]
theorem opG_size:opG A M sSize x l=l.any (fun v=>decide (v.kind=5) && decide ((v.items.length:Int)=x.int)):=by rw [opG,if_neg (by decide),if_neg (by decide),if_neg (by decide),if_neg (by decide),if_neg (by decide),if_neg (by decide),if_neg (by decide),if_pos rfl]
theorem opG_elem:opG A M sElem x l=l.any (fun v=>decide (v.kind=5) && v.items.any (fun y=>if isTestB x && !joinsB (firstS x) then A x [y] else decide (y.kind=6) && M x y)):=by rw [opG,if_neg (by decide),if_neg (by decide),if_neg (by decide),if_neg (by decide),if_neg (by decide),if_neg (by decide),if_neg (by decide),if_neg (by decide),if_pos rfl]
end
theorem chkT_mem {n:Nat} {v:JV} {d c c':Int} (h:chkT (n+1) v d c=.ok c') {p:List UInt8×JV} (hp:p ∈ v.mems) :
 isOp p.1=true/\takesB p.1 p.2=true/\(p.1=sNot->∃ d u u',chkT n p.2 d u=.ok u')/\(p.1=sElem->((isTestB p.2 && !joinsB (firstS p.2))=true->∃ d u u',chkT n p.2 d u=.ok u')/\((isTestB p.2 && !joinsB (firstS p.2))=false->∃ d u u',chkQ n p.2 d u=.ok u')):=by
 rw [chkT] at h
 split at h
 ·cases h
 split at h
 ·cases h
 obtain ⟨u,u',hu⟩:=foldX_all h p hp
 split at hu
 ·cases hu
 split at hu
 ·cases hu
 rename_i _ h2
 split at hu
 ·cases hu
 rename_i h3
 refine ⟨by simpa using h2,by simpa using h3,fun e=>?_,fun e=>⟨fun ht=>?_,fun ht=>?_⟩⟩
 ·rw [if_pos e] at hu;exact ⟨_,_,_,hu⟩
 ·rw [if_neg (by rw [e];decide),if_pos e,if_pos ht] at hu;exact ⟨_,_,_,hu⟩
 ·rw [if_neg (by rw [e];decide),if_pos e,if_neg (by rw [ht];simp)] at hu;exact ⟨_,_,_,hu⟩
def AllR (W:World) (n:Nat):Prop:=∀ (t:JV) (d c c':Int),chkT n t d c=.ok c'->sizeV t<n->cntV t<=2 ^ 30->tnV t->∀ l,cntVs l<=2 ^ 30->tnVs l->Pure Tryz.prog W 112 [encV t,.sl 5 (encVs l) []] (bA (allF n t l))
def MatchR (W:World) (n:Nat):Prop:=∀ (q:JV) (d c c':Int),chkQ n q d c=.ok c'->sizeV q<n->cntV q<=2 ^ 30->tnV q->∀ x,cntV x<=2 ^ 30->tnV x->Pure Tryz.prog W 21 [encV q,encV x] (bA (matchF n q x))
section
variable (W:World)
theorem op113 {n:Nat} (hA:AllR W n) (hM:MatchR W n) {name:List UInt8} {x:JV} (ho:isOp name=true) (tk:takesB name x=true) (hnot:name=sNot->∃ d u u',chkT n x d u=.ok u')
 (hel:name=sElem->((isTestB x && !joinsB (firstS x))=true->∃ d u u',chkT n x d u=.ok u')/\((isTestB x && !joinsB (firstS x))=false->∃ d u u',chkQ n x d u=.ok u'))
 (hsz:sizeV x<n) (hcx:cntV x<=2 ^ 30) (htx:tnV x) {l:List JV} (hl:cntVs l<=2 ^ 30) (htl:tnVs l):Pure Tryz.prog W 113 [.str name,encV x,.sl 5 (encVs l) []] (bA (opG (allF n) (matchF n) name x l)):=by
 have hmem:name ∈ [sEq,sNe,sGt,sGte,sLt,sLte,sIn,sNin,sAll,sExists,sType,sSize,sMod,sNot,sElem]:=by unfold isOp at ho;exact List.contains_iff_mem.1 ho
 have hct:∀ v ∈ testedL l,cntV v<=2 ^ 30:=fun v hv=>Nat.le_trans (mem_tested hv) hl
 simp only [List.mem_cons,List.not_mem_nil,or_false] at hmem
 rcases hmem with rfl|rfl|rfl|rfl|rfl|rfl|rfl|rfl|rfl|rfl|rfl|rfl|rfl|rfl|rfl
 ·rw [opG_eq];exact opEq W l hl x
 ·rw [opG_ne];exact opNe W l hl x
 ·rw [opG_def (by decide) (by decide) (by decide) (by decide) (by decide) (by decide) (by decide) (by decide) (by decide)];exact def_gt W l hl x fun v hv=>one_gt W x v (hct v hv) (tn_tested htl hv)
 ·rw [opG_def (by decide) (by decide) (by decide) (by decide) (by decide) (by decide) (by decide) (by decide) (by decide)];exact def_gte W l hl x fun v hv=>one_gte W x v (hct v hv) (tn_tested htl hv)
 ·rw [opG_def (by decide) (by decide) (by decide) (by decide) (by decide) (by decide) (by decide) (by decide) (by decide)];exact def_lt W l hl x fun v hv=>one_lt W x v (hct v hv) (tn_tested htl hv)
 ·rw [opG_def (by decide) (by decide) (by decide) (by decide) (by decide) (by decide) (by decide) (by decide) (by decide)];exact def_lte W l hl x fun v hv=>one_lte W x v (hct v hv) (tn_tested htl hv)
 ·rw [opG_in];exact opIn W l hl x hcx
 ·rw [opG_nin];exact opNin W l hl x hcx
 ·rw [opG_all];exact opAll W l hl x hcx
 ·rw [opG_ex];exact opEx W l hl x
 ·rw [opG_def (by decide) (by decide) (by decide) (by decide) (by decide) (by decide) (by decide) (by decide) (by decide)];exact def_type W l hl x fun v hv=>one_type W x v
 ·rw [opG_size];exact opSize W l hl x
 ·rw [opG_def (by decide) (by decide) (by decide) (by decide) (by decide) (by decide) (by decide) (by decide) (by decide)];exact def_mod W l hl x fun v hv=>one_mod W x v tk
 ·rw [opG_not]
  obtain ⟨d,u,u',hu⟩:=hnot rfl
  exact opNot W l hl x _ (hA x _ _ _ hu hsz hcx htx l hl htl)
 ·rw [opG_elem]
  obtain ⟨e1,e2⟩:=hel rfl
  have hc1:=mut_of_pure (by rfl) (tested149 W l hl)
  have hb:=loopLst W l hl sElem x (fun v=>v.items.any (fun y=>if isTestB x && !joinsB (firstS x) then allF n x [y] else decide (y.kind=6) && matchF n x y)) (fun v hv _=>by
   have hcv:=mem_cnt hv
   have hlv:=cntV_len v
   have htv:=tnVs_mem htl v hv
   refine listed150 W x v (allF n) (matchF n) (by omega) (fun ht y hy=>?_) (fun ht y hy h6=>?_)
   ·obtain ⟨d,u,u',hu⟩:=e1 ht
    obtain ⟨k,hk⟩:=List.getElem?_of_mem hy
    have:=cntV_item hk
    exact hA x _ _ _ hu hsz hcx htx [y] (by simp only [cntVs];omega) ⟨tn_item htv hy,trivial⟩
   ·obtain ⟨d,u,u',hu⟩:=e2 ht
    obtain ⟨k,hk⟩:=List.getElem?_of_mem hy
    have:=cntV_item hk
    exact hM x _ _ _ hu hsz hcx htx y (by omega) (tn_item htv hy))
  cases e:l.any (fun v=>decide (v.kind=5) && v.items.any (fun y=>if isTestB x && !joinsB (firstS x) then allF n x [y] else decide (y.kind=6) && matchF n x y)) with
  | true =>
   have hlp:=hb.1 e
   obtain ⟨hx,lx⟩:=x
   exact pure_of_mut rfl (mut_of_sfun mixedz call113 rfl (oelemt_0 W hx lx l (testedL l)) Fm2_z2)
  | false =>
   have hlp:=hb.2 e
   obtain ⟨hx,lx⟩:=x
   exact pure_of_mut rfl (mut_of_sfun mixedz call113 rfl (oelemf_0 W hx lx l (testedL l)) Fm2_z2)
theorem all_any {α:Type} (f:α->Bool) (l:List α):l.all f=!(l.any fun a=>!f a):=by
 induction l with
 | nil=>rfl
 | cons a l ih=>simp only [List.all_cons,List.any_cons,ih];cases f a<;>simp
theorem all112 {n:Nat} (hA:AllR W n) (hM:MatchR W n):AllR W (n+1):=by
 intro t d c c' hk hsz hcn htn l hl htl
 have hc1:=mut_of_pure (by simp only [cloL,encV_clo,Bool.and_self]) (members65 W t)
 have hml:=t.mems_len
 have hm1:=t.mem_names
 have hm2:=t.mem_items
 have hcl:=cntV_len t
 rw [allF,all_any]
 have round:∀ i p,t.mems[i]?=some p->∃ nm v,p=(nm,v)/\t.names[i]?=some nm/\t.items[i]?=some v/\MutC Tryz.prog W 113 [.str nm,encV v,.sl 5 (encVs l) []] [] (.ret (bA (opG (allF n) (matchF n) nm v l)) []):=fun i p hp=>by
  obtain ⟨nm,v⟩:=p
  have hz:=List.getElem?_zip_eq_some.1 hp
  obtain ⟨q1,q2,q3,q4⟩:=chkT_mem hk (List.mem_of_getElem? hp)
  have s1:=sizeV_item hz.2
  have s2:=cntV_item hz.2
  exact ⟨nm,v,rfl,hz.1,hz.2,mut_of_pure (by simp only [cloL,encV_clo,AV.clo,Bool.and_self]) (op113 W hA hM q1 q2 q3 q4 (by omega) (by omega) (tn_item htn (List.mem_of_getElem? hz.2)) hl htl)⟩
 obtain ⟨hx,lx⟩:=t
 simp only [JV.names,JV.items,JV.hd] at hm1 hm2 hcl round
 generalize hm:(JV.mk hx lx).mem=m at hc1 hml hm1 hm2
 have hb:=anyLoop (P:=Tryz.prog) (W:=W) (kp:=[]) (N:=nslots Tryz.prog 112) (x:=loopOf Tryz.prog 112 0) (S:=fun i=>S112 hx lx l i) (e1:=.ret) (e2:=.exit 0) (R:=T4 false) (E:=⟨[],[]⟩) (by simp) (by simp) (JV.mk hx lx).mems (fun p=>!opG (allF n) (matchF n) p.1 p.2 l)
  (fun i a ha hp=>by
   have hi:=(List.getElem?_eq_some_iff.1 ha).1
   obtain ⟨nm,v,rfl,h1,h2,hc⟩:=round i a ha
   have hget:(List.map AV.str hx.names)[((i:Int)).toNat]?=some (.str nm):=by rw [Int.toNat_natCast];exact strs_get h1
   have hget2:(encVs lx)[((i:Int)).toNat]?=some (encV v):=by rw [Int.toNat_natCast];exact encVs_get h2
   simp only at hp
   generalize opG (allF n) (matchF n) nm v l=g at hp hc
   obtain ⟨h,k⟩:=v
   exact body_of_sbodyK mixedz (b112_0 W nm hx h lx l k i g m) Fm2_z2 [] [] Fm2_z1)
  (fun i a ha hp=>by
   have hi:=(List.getElem?_eq_some_iff.1 ha).1
   have hws:IntKind.i64.wrap ((i:Int)+1)=((i+1:Nat):Int):=wrap_succ (by omega)
   obtain ⟨nm,v,rfl,h1,h2,hc⟩:=round i a ha
   have hget:(List.map AV.str hx.names)[((i:Int)).toNat]?=some (.str nm):=by rw [Int.toNat_natCast];exact strs_get h1
   have hget2:(encVs lx)[((i:Int)).toNat]?=some (encV v):=by rw [Int.toNat_natCast];exact encVs_get h2
   simp only at hp
   generalize opG (allF n) (matchF n) nm v l=g at hp hc
   obtain ⟨h,k⟩:=v
   exact body_of_sbodyK mixedz (b112_1 W nm hx h lx l k i g m) Fm2_z2 [] [] Fm2_z1)
  (by rw [hml];exact body_of_sbodyK mixedz (b112_2 W hx lx l m m) Fm2_z2 [] [] Fm2_z1)
 cases e:(JV.mk hx lx).mems.any (fun p=>!opG (allF n) (matchF n) p.1 p.2 l) with
 | true =>
  have hlp:=hb.1 e
  exact pure_of_mut rfl (mut_of_sfun mixedz call112 rfl (r112_0 W hx lx l) Fm2_z2)
 | false =>
  have hlp:=hb.2 e
  exact pure_of_mut rfl (mut_of_sfun mixedz call112 rfl (p112_0 W hx lx l) Fm2_z2)
end
end Go.Ac

