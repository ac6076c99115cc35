/- What is proved: contracts of functions of this translation, walked; their plain meaning. No condition beyond those that each theorem names. -/
import Derived.Test.YtohlmhkiejpkgaaGreatDoorFm2
set_option linter.all false
namespace Go.Ac
open Go Go.Proofs
set_option maxRecDepth 10000
set_option maxHeartbeats 2000000
theorem tk_mod {x:JV} (h:takesB sMod x=true):∃ a b,x.items=[a,b]/\a.int ≠ 0:=by
 have e:takesB sMod x=(decide (x.kind=5) && (match x.items with|[a,b]=>decide (a.kind=3) && decide (b.kind=3) && !decide (a.int=0)|_=>false)):=rfl
 rw [e,Bool.and_eq_true] at h
 obtain ⟨_,h2⟩:=h
 split at h2
 ·rename_i a b hi
  simp only [Bool.and_eq_true,Bool.not_eq_true',decide_eq_false_iff_not] at h2
  exact ⟨a,b,hi,h2.2⟩
 ·cases h2
theorem oneG_type (x v:JV):oneG sType x v=decide (classV v=typeN x.text):=by rw [oneG,if_pos rfl]
theorem oneG_mod (x v:JV):oneG sMod x v=modB x v:=by rw [oneG,if_neg (by decide),if_pos rfl]
theorem oneG_ord {nm:List UInt8} (h1:nm ≠ sType) (h2:nm ≠ sMod) (x v:JV):oneG nm x v=(decide (classV v=classV x) && ordB nm (cmpV v x)):=by rw [oneG,if_neg h1,if_neg h2]
section
variable (W:World)
theorem one_type (x v:JV):Pure Tryz.prog W 151 [.str sType,encV x,encV v] (bA (oneG sType x v)):=by
 rw [oneG_type]
 obtain ⟨hx,lx⟩:=x
 obtain ⟨hv,lv⟩:=v
 have hc1:=mut_of_pure (by rfl) (class187 W hv lv)
 have hc2:=mut_of_pure (by rfl) (type188 W hx.text)
 exact pure_of_mut rfl (mut_of_sfun mixedz call151 rfl (mtype_0 W hx hv lx lv _ _) Fm2_z2)
theorem one_mod (x v:JV) (htk:takesB sMod x=true):Pure Tryz.prog W 151 [.str sMod,encV x,encV v] (bA (oneG sMod x v)):=by
 rw [oneG_mod]
 obtain ⟨a,b,hi,hne⟩:=tk_mod htk
 obtain ⟨hx,lx⟩:=x
 obtain ⟨hv,lv⟩:=v
 simp only [JV.items] at hi
 subst hi
 have e:modB (.mk hx [a,b]) (.mk hv lv)=(decide (hv.kind=3) && decide (hv.int.tmod a.int=b.int)):=rfl
 rw [e]
 obtain ⟨ha,la⟩:=a
 obtain ⟨hb,lb⟩:=b
 have hg0:(encVs [JV.mk ha la,JV.mk hb lb])[0]?=some (encV (.mk ha la)):=rfl
 have hg1:(encVs [JV.mk ha la,JV.mk hb lb])[1]?=some (encV (.mk hb lb)):=rfl
 by_cases hk:hv.kind=3
 ·have hd:decide (hv.kind=3)=true:=decide_eq_true hk
  rw [hd,Bool.true_and]
  exact pure_of_mut rfl (mut_of_sfun mixedz call151 rfl (mmod_0 W hx hv ha [.mk ha la,.mk hb lb] lv la hb lb) Fm2_z2)
 ·have hd:decide (hv.kind=3)=false:=decide_eq_false hk
  rw [hd,Bool.false_and]
  exact pure_of_mut rfl (mut_of_sfun mixedz call151 rfl (mmod_1 W hx hv [.mk ha la,.mk hb lb] lv) Fm2_z2)
theorem cmp83 (v x:JV) (hc:cntV v<=2 ^ 30) (ht:tnV v):MutC Tryz.prog W 83 [encV v,encV x] [] (.ret (iA (cmpV v x)) []) :=
 mut_of_pure (by simp only [cloL,encV_clo,Bool.and_self]) (compare83 W _ v x (Nat.lt_succ_self _) hc ht)
theorem one_gt (x v:JV) (hc:cntV v<=2 ^ 30) (ht:tnV v):Pure Tryz.prog W 151 [.str sGt,encV x,encV v] (bA (oneG sGt x v)):=by
 rw [oneG_ord (by decide) (by decide)]
 have hc3:=cmp83 W v x hc ht
 obtain ⟨hx,lx⟩:=x
 obtain ⟨hv,lv⟩:=v
 have hc1:=mut_of_pure (by rfl) (class187 W hv lv)
 have hc2:=mut_of_pure (by rfl) (class187 W hx lx)
 have e:∀ c,ordB sGt c=decide (0<c):=fun c=>rfl
 by_cases hk:classV (.mk hv lv)=classV (.mk hx lx)
 ·have hb:(!decide (classV (.mk hv lv)=classV (.mk hx lx)))=false:=by rw [decide_eq_true hk];rfl
  rw [decide_eq_true hk,Bool.true_and,e]
  exact pure_of_mut rfl (mut_of_sfun mixedz call151 rfl (mgt_1 W hx hv lx lv _ _ _) Fm2_z2)
 ·have hb:(!decide (classV (.mk hv lv)=classV (.mk hx lx)))=true:=by rw [decide_eq_false hk];rfl
  rw [decide_eq_false hk,Bool.false_and]
  exact pure_of_mut rfl (mut_of_sfun mixedz call151 rfl (mgt_0 W hx hv lx lv _ _) Fm2_z2)
theorem one_gte (x v:JV) (hc:cntV v<=2 ^ 30) (ht:tnV v):Pure Tryz.prog W 151 [.str sGte,encV x,encV v] (bA (oneG sGte x v)):=by
 rw [oneG_ord (by decide) (by decide)]
 have hc3:=cmp83 W v x hc ht
 obtain ⟨hx,lx⟩:=x
 obtain ⟨hv,lv⟩:=v
 have hc1:=mut_of_pure (by rfl) (class187 W hv lv)
 have hc2:=mut_of_pure (by rfl) (class187 W hx lx)
 have e:∀ c,ordB sGte c=decide (0<=c):=fun c=>rfl
 by_cases hk:classV (.mk hv lv)=classV (.mk hx lx)
 ·have hb:(!decide (classV (.mk hv lv)=classV (.mk hx lx)))=false:=by rw [decide_eq_true hk];rfl
  rw [decide_eq_true hk,Bool.true_and,e]
  exact pure_of_mut rfl (mut_of_sfun mixedz call151 rfl (mgte_1 W hx hv lx lv _ _ _) Fm2_z2)
 ·have hb:(!decide (classV (.mk hv lv)=classV (.mk hx lx)))=true:=by rw [decide_eq_false hk];rfl
  rw [decide_eq_false hk,Bool.false_and]
  exact pure_of_mut rfl (mut_of_sfun mixedz call151 rfl (mgte_0 W hx hv lx lv _ _) Fm2_z2)
theorem one_lt (x v:JV) (hc:cntV v<=2 ^ 30) (ht:tnV v):Pure Tryz.prog W 151 [.str sLt,encV x,encV v] (bA (oneG sLt x v)):=by
 rw [oneG_ord (by decide) (by decide)]
 have hc3:=cmp83 W v x hc ht
 obtain ⟨hx,lx⟩:=x
 obtain ⟨hv,lv⟩:=v
 have hc1:=mut_of_pure (by rfl) (class187 W hv lv)
 have hc2:=mut_of_pure (by rfl) (class187 W hx lx)
 have e:∀ c,ordB sLt c=decide (c<0):=fun c=>rfl
 by_cases hk:classV (.mk hv lv)=classV (.mk hx lx)
 ·have hb:(!decide (classV (.mk hv lv)=classV (.mk hx lx)))=false:=by rw [decide_eq_true hk];rfl
  rw [decide_eq_true hk,Bool.true_and,e]
  exact pure_of_mut rfl (mut_of_sfun mixedz call151 rfl (mlt_1 W hx hv lx lv _ _ _) Fm2_z2)
 ·have hb:(!decide (classV (.mk hv lv)=classV (.mk hx lx)))=true:=by rw [decide_eq_false hk];rfl
  rw [decide_eq_false hk,Bool.false_and]
  exact pure_of_mut rfl (mut_of_sfun mixedz call151 rfl (mlt_0 W hx hv lx lv _ _) Fm2_z2)
theorem one_lte (x v:JV) (hc:cntV v<=2 ^ 30) (ht:tnV v):Pure Tryz.prog W 151 [.str sLte,encV x,encV v] (bA (oneG sLte x v)):=by
 rw [oneG_ord (by decide) (by decide)]
 have hc3:=cmp83 W v x hc ht
 obtain ⟨hx,lx⟩:=x
 obtain ⟨hv,lv⟩:=v
 have hc1:=mut_of_pure (by rfl) (class187 W hv lv)
 have hc2:=mut_of_pure (by rfl) (class187 W hx lx)
 have e:∀ c,ordB sLte c=decide (c<=0):=fun c=>rfl
 by_cases hk:classV (.mk hv lv)=classV (.mk hx lx)
 ·have hb:(!decide (classV (.mk hv lv)=classV (.mk hx lx)))=false:=by rw [decide_eq_true hk];rfl
  rw [decide_eq_true hk,Bool.true_and,e]
  exact pure_of_mut rfl (mut_of_sfun mixedz call151 rfl (mlte_1 W hx hv lx lv _ _ _) Fm2_z2)
 ·have hb:(!decide (classV (.mk hv lv)=classV (.mk hx lx)))=true:=by rw [decide_eq_false hk];rfl
  rw [decide_eq_false hk,Bool.false_and]
  exact pure_of_mut rfl (mut_of_sfun mixedz call151 rfl (mlte_0 W hx hv lx lv _ _) Fm2_z2)
end
section
variable (W:World) (l:List JV) (hl:cntVs l<=2 ^ 30)
include hl
theorem loopDef (nm:List UInt8) (x:JV) (h1:∀ v ∈ testedL l,Pure Tryz.prog W 151 [.str nm,encV x,encV v] (bA (oneG nm x v))) :
 ((testedL l).any (oneG nm x)=true->LoopC Tryz.prog W [] (nslots Tryz.prog 113) (loopOf Tryz.prog 113 4) (L4 nm x.hd x.items (testedL l) 0) .ret (T6 true))/\((testedL l).any (oneG nm x)=false->LoopC Tryz.prog W [] (nslots Tryz.prog 113) (loopOf Tryz.prog 113 4) (L4 nm x.hd x.items (testedL l) 0) (.exit 9) ⟨[],[]⟩):=by
 have hml:=tested_len2 l
 obtain ⟨hx,lx⟩:=x
 exact anyLoop (S:=fun i=>L4 nm hx lx (testedL l) i) (by simp) (by simp) (testedL l) (oneG nm (.mk hx lx))
  (fun i a ha hp=>by
   have hi:=(List.getElem?_eq_some_iff.1 ha).1
   have hget:(encVs (testedL l))[((i:Int)).toNat]?=some (encV a):=by rw [Int.toNat_natCast];exact encVs_get ha
   have hc:=mut_of_pure (by simp only [cloL,encV_clo,AV.clo,Bool.and_self]) (h1 a (List.mem_of_getElem? ha))
   rw [hp] at hc
   obtain ⟨h,k⟩:=a
   exact body_of_sbodyK mixedz (o113b4_0 W nm hx lx (testedL l) i h k true) Fm2_z2 [] [] Fm2_z1)
  (fun i a ha hp=>by
   have hi:=(List.getElem?_eq_some_iff.1 ha).1
   have hws:IntKind.i64.wrap ((i:Int)+1)=((i+1:Nat):Int):=wrap_succ (by omega)
   have hget:(encVs (testedL l))[((i:Int)).toNat]?=some (encV a):=by rw [Int.toNat_natCast];exact encVs_get ha
   have hc:=mut_of_pure (by simp only [cloL,encV_clo,AV.clo,Bool.and_self]) (h1 a (List.mem_of_getElem? ha))
   rw [hp] at hc
   obtain ⟨h,k⟩:=a
   exact body_of_sbodyK mixedz (o113b4_1 W nm hx lx (testedL l) i h k false) Fm2_z2 [] [] Fm2_z1)
  (body_of_sbodyK mixedz (o113b4_2 W nm hx lx (testedL l) (testedL l).length) Fm2_z2 [] [] Fm2_z1)
theorem def_gt (x:JV) (h1:∀ v ∈ testedL l,Pure Tryz.prog W 151 [.str sGt,encV x,encV v] (bA (oneG sGt x v))):Pure Tryz.prog W 113 [.str sGt,encV x,.sl 5 (encVs l) []] (bA ((testedL l).any (oneG sGt x))):=by
 have hc1:=mut_of_pure (by rfl) (tested149 W l hl)
 have hb:=loopDef W l hl sGt x h1
 cases e:(testedL l).any (oneG sGt x) with
 | true =>
  have hlp:=hb.1 e
  obtain ⟨hx,lx⟩:=x
  exact pure_of_mut rfl (mut_of_sfun mixedz call113 rfl (ogtt_0 W hx lx l (testedL l)) Fm2_z2)
 | false =>
  have hlp:=hb.2 e
  obtain ⟨hx,lx⟩:=x
  exact pure_of_mut rfl (mut_of_sfun mixedz call113 rfl (ogtf_0 W hx lx l (testedL l)) Fm2_z2)
theorem def_gte (x:JV) (h1:∀ v ∈ testedL l,Pure Tryz.prog W 151 [.str sGte,encV x,encV v] (bA (oneG sGte x v))):Pure Tryz.prog W 113 [.str sGte,encV x,.sl 5 (encVs l) []] (bA ((testedL l).any (oneG sGte x))):=by
 have hc1:=mut_of_pure (by rfl) (tested149 W l hl)
 have hb:=loopDef W l hl sGte x h1
 cases e:(testedL l).any (oneG sGte x) with
 | true =>
  have hlp:=hb.1 e
  obtain ⟨hx,lx⟩:=x
  exact pure_of_mut rfl (mut_of_sfun mixedz call113 rfl (ogtet_0 W hx lx l (testedL l)) Fm2_z2)
 | false =>
  have hlp:=hb.2 e
  obtain ⟨hx,lx⟩:=x
  exact pure_of_mut rfl (mut_of_sfun mixedz call113 rfl (ogtef_0 W hx lx l (testedL l)) Fm2_z2)
theorem def_lt (x:JV) (h1:∀ v ∈ testedL l,Pure Tryz.prog W 151 [.str sLt,encV x,encV v] (bA (oneG sLt x v))):Pure Tryz.prog W 113 [.str sLt,encV x,.sl 5 (encVs l) []] (bA ((testedL l).any (oneG sLt x))):=by
 have hc1:=mut_of_pure (by rfl) (tested149 W l hl)
 have hb:=loopDef W l hl sLt x h1
 cases e:(testedL l).any (oneG sLt x) with
 | true =>
  have hlp:=hb.1 e
  obtain ⟨hx,lx⟩:=x
  exact pure_of_mut rfl (mut_of_sfun mixedz call113 rfl (oltt_0 W hx lx l (testedL l)) Fm2_z2)
 | false =>
  have hlp:=hb.2 e
  obtain ⟨hx,lx⟩:=x
  exact pure_of_mut rfl (mut_of_sfun mixedz call113 rfl (oltf_0 W hx lx l (testedL l)) Fm2_z2)
theorem def_lte (x:JV) (h1:∀ v ∈ testedL l,Pure Tryz.prog W 151 [.str sLte,encV x,encV v] (bA (oneG sLte x v))):Pure Tryz.prog W 113 [.str sLte,encV x,.sl 5 (encVs l) []] (bA ((testedL l).any (oneG sLte x))):=by
 have hc1:=mut_of_pure (by rfl) (tested149 W l hl)
 have hb:=loopDef W l hl sLte x h1
 cases e:(testedL l).any (oneG sLte x) with
 | true =>
  have hlp:=hb.1 e
  obtain ⟨hx,lx⟩:=x
  exact pure_of_mut rfl (mut_of_sfun mixedz call113 rfl (oltet_0 W hx lx l (testedL l)) Fm2_z2)
 | false =>
  have hlp:=hb.2 e
  obtain ⟨hx,lx⟩:=x
  exact pure_of_mut rfl (mut_of_sfun mixedz call113 rfl (oltef_0 W hx lx l (testedL l)) Fm2_z2)
theorem def_type (x:JV) (h1:∀ v ∈ testedL l,Pure Tryz.prog W 151 [.str sType,encV x,encV v] (bA (oneG sType x v))):Pure Tryz.prog W 113 [.str sType,encV x,.sl 5 (encVs l) []] (bA ((testedL l).any (oneG sType x))):=by
 have hc1:=mut_of_pure (by rfl) (tested149 W l hl)
 have hb:=loopDef W l hl sType x h1
 cases e:(testedL l).any (oneG sType x) with
 | true =>
  have hlp:=hb.1 e
  obtain ⟨hx,lx⟩:=x
  exact pure_of_mut rfl (mut_of_sfun mixedz call113 rfl (otypet_0 W hx lx l (testedL l)) Fm2_z2)
 | false =>
  have hlp:=hb.2 e
  obtain ⟨hx,lx⟩:=x
  exact pure_of_mut rfl (mut_of_sfun mixedz call113 rfl (otypef_0 W hx lx l (testedL l)) Fm2_z2)
theorem def_mod (x:JV) (h1:∀ v ∈ testedL l,Pure Tryz.prog W 151 [.str sMod,encV x,encV v] (bA (oneG sMod x v))):Pure Tryz.prog W 113 [.str sMod,encV x,.sl 5 (encVs l) []] (bA ((testedL l).any (oneG sMod x))):=by
 have hc1:=mut_of_pure (by rfl) (tested149 W l hl)
 have hb:=loopDef W l hl sMod x h1
 cases e:(testedL l).any (oneG sMod x) with
 | true =>
  have hlp:=hb.1 e
  obtain ⟨hx,lx⟩:=x
  exact pure_of_mut rfl (mut_of_sfun mixedz call113 rfl (omodt_0 W hx lx l (testedL l)) Fm2_z2)
 | false =>
  have hlp:=hb.2 e
  obtain ⟨hx,lx⟩:=x
  exact pure_of_mut rfl (mut_of_sfun mixedz call113 rfl (omodf_0 W hx lx l (testedL l)) Fm2_z2)
theorem loopLst (nm:List UInt8) (x:JV) (f:JV->Bool) (h1:∀ v ∈ l,v.kind=5->Pure Tryz.prog W 150 [.str nm,encV x,encV v] (bA (f v))) :
 (l.any (fun v=>decide (v.kind=5) && f v)=true->LoopC Tryz.prog W [] (nslots Tryz.prog 113) (loopOf Tryz.prog 113 3) (L3 nm x.hd x.items l 0) .ret (T6 true))/\(l.any (fun v=>decide (v.kind=5) && f v)=false->LoopC Tryz.prog W [] (nslots Tryz.prog 113) (loopOf Tryz.prog 113 3) (L3 nm x.hd x.items l 0) (.exit 7) ⟨[],[]⟩):=by
 have hml:=cntVs_len l
 obtain ⟨hx,lx⟩:=x
 exact anyLoop (S:=fun i=>L3 nm hx lx l i) (by simp) (by simp) l (fun v=>decide (v.kind=5) && f v)
  (fun i a ha hp=>by
   have hi:=(List.getElem?_eq_some_iff.1 ha).1
   have hget:(encVs l)[((i:Int)).toNat]?=some (encV a):=by rw [Int.toNat_natCast];exact encVs_get ha
   simp only [Bool.and_eq_true,decide_eq_true_eq] at hp
   have hc:=mut_of_pure (by simp only [cloL,encV_clo,AV.clo,Bool.and_self]) (h1 a (List.mem_of_getElem? ha) hp.1)
   rw [hp.2] at hc
   obtain ⟨h,k⟩:=a
   have hd:decide (h.kind=5)=true:=decide_eq_true hp.1
   exact body_of_sbodyK mixedz (o113b3_0 W nm hx lx l i h k true) Fm2_z2 [] [] Fm2_z1)
  (fun i a ha hp=>by
   have hi:=(List.getElem?_eq_some_iff.1 ha).1
   have hws:IntKind.i64.wrap ((i:Int)+1)=((i+1:Nat):Int):=wrap_succ (by omega)
   have hget:(encVs l)[((i:Int)).toNat]?=some (encV a):=by rw [Int.toNat_natCast];exact encVs_get ha
   by_cases hk:a.kind=5
   ·rw [decide_eq_true hk,Bool.true_and] at hp
    have hc:=mut_of_pure (by simp only [cloL,encV_clo,AV.clo,Bool.and_self]) (h1 a (List.mem_of_getElem? ha) hk)
    rw [hp] at hc
    obtain ⟨h,k⟩:=a
    have hd:decide (h.kind=5)=true:=decide_eq_true hk
    exact body_of_sbodyK mixedz (o113b3_1 W nm hx lx l i h k false) Fm2_z2 [] [] Fm2_z1
   ·obtain ⟨h,k⟩:=a
    have hd:decide (h.kind=5)=false:=decide_eq_false hk
    exact body_of_sbodyK mixedz (o113b3_2 W nm hx lx l i h k) Fm2_z2 [] [] Fm2_z1)
  (body_of_sbodyK mixedz (o113b3_3 W nm hx lx l l.length) Fm2_z2 [] [] Fm2_z1)
theorem opSize (x:JV):Pure Tryz.prog W 113 [.str sSize,encV x,.sl 5 (encVs l) []] (bA (l.any fun v=>decide (v.kind=5) && decide ((v.items.length:Int)=x.int))):=by
 have hc1:=mut_of_pure (by rfl) (tested149 W l hl)
 have hb:=loopLst W l hl sSize x (fun v=>decide ((v.items.length:Int)=x.int)) (fun v hvm _=>by
  obtain ⟨hx,lx⟩:=x
  obtain ⟨hv,lv⟩:=v
  have e:decide (((JV.mk hv lv).items.length:Int)=(JV.mk hx lx).int)=decide (((encVs lv).length:Int)=hx.int):=by rw [encVs_len];rfl
  rw [e]
  exact pure_of_mut rfl (mut_of_sfun mixedz call150 rfl (lsize_0 W hx hv lx lv) trivial))
 cases e:l.any (fun v=>decide (v.kind=5) && decide ((v.items.length:Int)=x.int)) with
 | true =>
  have hlp:=hb.1 e
  obtain ⟨hx,lx⟩:=x
  exact pure_of_mut rfl (mut_of_sfun mixedz call113 rfl (osizet_0 W hx lx l (testedL l)) Fm2_z2)
 | false =>
  have hlp:=hb.2 e
  obtain ⟨hx,lx⟩:=x
  exact pure_of_mut rfl (mut_of_sfun mixedz call113 rfl (osizef_0 W hx lx l (testedL l)) Fm2_z2)
end
section
variable (W:World)
theorem listed150 (x v:JV) (A:JV->List JV->Bool) (M:JV->JV->Bool) (hlv:v.items.length<=2 ^ 50)
 (hA:(isTestB x && !joinsB (firstS x))=true->∀ y ∈ v.items,Pure Tryz.prog W 112 [encV x,.sl 5 (encVs [y]) []] (bA (A x [y])))
 (hM:(isTestB x && !joinsB (firstS x))=false->∀ y ∈ v.items,y.kind=6->Pure Tryz.prog W 21 [encV x,encV y] (bA (M x y))) :
 Pure Tryz.prog W 150 [.str sElem,encV x,encV v] (bA (v.items.any fun y=>if isTestB x && !joinsB (firstS x) then A x [y] else decide (y.kind=6) && M x y)):=by
 have hc1:=mut_of_pure (by simp only [cloL,encV_clo,Bool.and_self]) (first74 W x)
 have hc2:=mut_of_pure (by rfl) (dollar69 W (firstS x))
 have hc3:=mut_of_pure (by rfl) (joins70 W (firstS x))
 have hb:(v.items.any (fun y=>if isTestB x && !joinsB (firstS x) then A x [y] else decide (y.kind=6) && M x y)=true->LoopC Tryz.prog W [] (nslots Tryz.prog 150) (loopOf Tryz.prog 150 0) (S150 x.hd v.hd x.items v.items 0) .ret (T6b true)) ∧
  (v.items.any (fun y=>if isTestB x && !joinsB (firstS x) then A x [y] else decide (y.kind=6) && M x y)=false->LoopC Tryz.prog W [] (nslots Tryz.prog 150) (loopOf Tryz.prog 150 0) (S150 x.hd v.hd x.items v.items 0) (.exit 0) ⟨[],[]⟩):=by
  refine anyLoop (S:=fun i=>S150 x.hd v.hd x.items v.items i) (by simp) (by simp) v.items _ (fun i a ha hp=>?_) (fun i a ha hp=>?_) ?_
  ·have hi:=(List.getElem?_eq_some_iff.1 ha).1
   have hget:(encVs v.items)[((i:Int)).toNat]?=some (encV a):=by rw [Int.toNat_natCast];exact encVs_get ha
   have hil:decide ((i:Int)<((encVs v.items).length:Int))=true:=by rw [encVs_len];exact decide_eq_true (by omega)
   have ham:=List.mem_of_getElem? ha
   cases ht:(isTestB x && !joinsB (firstS x)) with
   | true =>
    rw [ht] at hp
    simp only [if_true] at hp
    have hcA:=hA ht a ham
    simp only [Bool.and_eq_true,Bool.not_eq_true'] at ht
    have e1:dollarB (firstS x)=true:=ht.1
    rw [e1] at hc2
    rw [ht.2] at hc3
    rw [hp] at hcA
    obtain ⟨hx,lx⟩:=x
    obtain ⟨hv,lv⟩:=v
    obtain ⟨h,k⟩:=a
    have hcM:MutC Tryz.prog W 112 [encV (.mk hx lx),.gs 100002 0 1] [(100002,.arr 25 5 [encV (.mk h k)] .own)] (.ret (bA true) [(100002,.arr 25 5 [encV (.mk h k)] .own)]) :=
     mut_of_pureFlat (frz2 rfl (by simp [Frzable,cloL,encV_clo])) rfl (by rfl) rfl hcA
    exact body_of_sbodyK mixedz (b150t_0 W hx hv h lx lv k i true (firstS (.mk hx lx))) Fm2_z2 [] [] Fm2_z1
   | false =>
    rw [ht] at hp
    simp only [Bool.false_eq_true,if_false,Bool.and_eq_true,decide_eq_true_eq] at hp
    have hcM:=mut_of_pure (by simp only [cloL,encV_clo,Bool.and_self]) (hM ht a ham hp.1)
    rw [hp.2] at hcM
    have e1:isTestB x=dollarB (firstS x):=rfl
    rw [e1] at ht
    cases hd:dollarB (firstS x) with
    | true =>
     rw [hd,Bool.true_and,Bool.not_eq_false'] at ht
     rw [hd] at hc2
     rw [ht] at hc3
     obtain ⟨hx,lx⟩:=x
     obtain ⟨hv,lv⟩:=v
     obtain ⟨h,k⟩:=a
     have hk:decide (h.kind=6)=true:=decide_eq_true hp.1
     exact body_of_sbodyK mixedz (b150j_0 W hx hv h lx lv k i true (firstS (.mk hx lx))) Fm2_z2 [] [] Fm2_z1
    | false =>
     rw [hd] at hc2
     obtain ⟨hx,lx⟩:=x
     obtain ⟨hv,lv⟩:=v
     obtain ⟨h,k⟩:=a
     have hk:decide (h.kind=6)=true:=decide_eq_true hp.1
     exact body_of_sbodyK mixedz (b150n_0 W hx hv h lx lv k i true (firstS (.mk hx lx))) Fm2_z2 [] [] Fm2_z1
  ·have hi:=(List.getElem?_eq_some_iff.1 ha).1
   have hws:IntKind.i64.wrap ((i:Int)+1)=((i+1:Nat):Int):=wrap_succ (by omega)
   have hget:(encVs v.items)[((i:Int)).toNat]?=some (encV a):=by rw [Int.toNat_natCast];exact encVs_get ha
   have hil:decide ((i:Int)<((encVs v.items).length:Int))=true:=by rw [encVs_len];exact decide_eq_true (by omega)
   have ham:=List.mem_of_getElem? ha
   cases ht:(isTestB x && !joinsB (firstS x)) with
   | true =>
    rw [ht] at hp
    simp only [if_true] at hp
    have hcA:=hA ht a ham
    simp only [Bool.and_eq_true,Bool.not_eq_true'] at ht
    have e1:dollarB (firstS x)=true:=ht.1
    rw [e1] at hc2
    rw [ht.2] at hc3
    rw [hp] at hcA
    obtain ⟨hx,lx⟩:=x
    obtain ⟨hv,lv⟩:=v
    obtain ⟨h,k⟩:=a
    have hcM:MutC Tryz.prog W 112 [encV (.mk hx lx),.gs 100002 0 1] [(100002,.arr 25 5 [encV (.mk h k)] .own)] (.ret (bA false) [(100002,.arr 25 5 [encV (.mk h k)] .own)]) :=
     mut_of_pureFlat (frz2 rfl (by simp [Frzable,cloL,encV_clo])) rfl (by rfl) rfl hcA
    exact body_of_sbodyK mixedz (b150t_1 W hx hv h lx lv k i false (firstS (.mk hx lx))) Fm2_z2 [] [] Fm2_z1
   | false =>
    rw [ht] at hp
    simp only [Bool.false_eq_true,if_false] at hp
    have e1:isTestB x=dollarB (firstS x):=rfl
    have ht0:=ht
    rw [e1] at ht
    by_cases hk6:a.kind=6
    ·rw [decide_eq_true hk6,Bool.true_and] at hp
     have hcM:=mut_of_pure (by simp only [cloL,encV_clo,Bool.and_self]) (hM ht0 a ham hk6)
     rw [hp] at hcM
     cases hd:dollarB (firstS x) with
     | true =>
      rw [hd,Bool.true_and,Bool.not_eq_false'] at ht
      rw [hd] at hc2
      rw [ht] at hc3
      obtain ⟨hx,lx⟩:=x
      obtain ⟨hv,lv⟩:=v
      obtain ⟨h,k⟩:=a
      have hk:decide (h.kind=6)=true:=decide_eq_true hk6
      exact body_of_sbodyK mixedz (b150j_1 W hx hv h lx lv k i false (firstS (.mk hx lx))) Fm2_z2 [] [] Fm2_z1
     | false =>
      rw [hd] at hc2
      obtain ⟨hx,lx⟩:=x
      obtain ⟨hv,lv⟩:=v
      obtain ⟨h,k⟩:=a
      have hk:decide (h.kind=6)=true:=decide_eq_true hk6
      exact body_of_sbodyK mixedz (b150n_1 W hx hv h lx lv k i false (firstS (.mk hx lx))) Fm2_z2 [] [] Fm2_z1
    ·cases hd:dollarB (firstS x) with
     | true =>
      rw [hd,Bool.true_and,Bool.not_eq_false'] at ht
      rw [hd] at hc2
      rw [ht] at hc3
      obtain ⟨hx,lx⟩:=x
      obtain ⟨hv,lv⟩:=v
      obtain ⟨h,k⟩:=a
      have hk:decide (h.kind=6)=false:=decide_eq_false hk6
      exact body_of_sbodyK mixedz (b150j_2 W hx hv h lx lv k i (firstS (.mk hx lx))) Fm2_z2 [] [] Fm2_z1
     | false =>
      rw [hd] at hc2
      obtain ⟨hx,lx⟩:=x
      obtain ⟨hv,lv⟩:=v
      obtain ⟨h,k⟩:=a
      have hk:decide (h.kind=6)=false:=decide_eq_false hk6
      exact body_of_sbodyK mixedz (b150n_2 W hx hv h lx lv k i (firstS (.mk hx lx))) Fm2_z2 [] [] Fm2_z1
  ·exact body_of_sbodyK mixedz (b150t_2 W x.hd v.hd x.items v.items v.items.length) Fm2_z2 [] [] Fm2_z1
 cases e:v.items.any (fun y=>if isTestB x && !joinsB (firstS x) then A x [y] else decide (y.kind=6) && M x y) with
 | true =>
  have hlp:=hb.1 e
  obtain ⟨hx,lx⟩:=x
  obtain ⟨hv,lv⟩:=v
  exact pure_of_mut rfl (mut_of_sfun mixedz call150 rfl (lelt_0 W hx hv lx lv) Fm2_z2)
 | false =>
  have hlp:=hb.2 e
  obtain ⟨hx,lx⟩:=x
  obtain ⟨hv,lv⟩:=v
  exact pure_of_mut rfl (mut_of_sfun mixedz call150 rfl (lelf_0 W hx hv lx lv) Fm2_z2)
end
end Go.Ac

