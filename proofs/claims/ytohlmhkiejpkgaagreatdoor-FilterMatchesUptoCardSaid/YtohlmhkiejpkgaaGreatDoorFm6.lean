/- What is proved: contracts of functions of this translation, walked; their plain meaning. No condition beyond those that each theorem names. -/
import Derived.Test.YtohlmhkiejpkgaaGreatDoorFm5
import Derived.Test.YtohlmhkiejpkgaaGreatDoorBl
set_option linter.all false
namespace Go.Ac
open Go Go.Proofs
set_option maxRecDepth 10000
set_option maxHeartbeats 2000000
mutual
theorem tn_bl:∀ (j:JV) (B:Nat),bl (encV j)<=B->B<=2 ^ 30->tnV j
 | .mk h l,B,h1,h2=>by
  obtain ⟨b1,b2⟩:=blL_str h.names
  have e:bl (encV (.mk h l))=h.text.length+1+(bl.blL (h.names.map AV.str)+1)+(bl.blL (encVs l)+1):=by
   simp only [encV,bl,bl.blL];omega
  rw [e] at h1
  exact ⟨by omega,fun s hs=>by have:=b2 s hs;omega,tns_bl l B (by omega) h2⟩
theorem tns_bl:∀ (l:List JV) (B:Nat),bl.blL (encVs l)<=B->B<=2 ^ 30->tnVs l
 | [],_,_,_=>trivial
 | j::l,B,h1,h2=>by
  simp only [encVs,bl.blL] at h1
  exact ⟨tn_bl j B (by omega) h2,tns_bl l B (by omega) h2⟩
end
section
variable (W:World)
theorem loop3 {q:JV} {t:Int} (hk:chkQ (sizeV q+1) q 0 0=.ok t) (hcq:cntV q<=2 ^ 30) (htq:tnV q) (l:List JV) (hcl:cntVs l<=2 ^ 30) (htl:tnVs l):∀ (k i:Nat),l.length - i=k->i<=l.length →
 LoopC Tryz.prog W [] (nslots Tryz.prog 3) (loopOf Tryz.prog 3 0) (S3 q.hd q.items l (qN (sizeV q+1) q) t i) (.exit 0) ⟨[],[]⟩:=by
 intro k
 have hln:=cntVs_len l
 induction k with
 | zero =>
  intro i hk hle
  have e:i=l.length:=by omega
  subst e
  exact loop_last (by simp) (body_of_sbodyK mixedz (b3_1 W q.hd q.items l l.length t (qN (sizeV q+1) q)) Fm2_z2 [] [] Fm2_z1)
 | succ k ih =>
  intro i hk2 hle
  obtain ⟨v,hv⟩:=getOf (l:=l) (i:=i) (by omega)
  have hvm:=List.mem_of_getElem? hv
  have hcv:=mem_cnt hvm
  have hws:IntKind.i64.wrap ((i:Int)+1)=((i+1:Nat):Int):=wrap_succ (by omega)
  have hnx:=ih (i+1) (by omega) (by omega)
  have hget:(encVs l)[((i:Int)).toNat]?=some (encV v):=by rw [Int.toNat_natCast];exact encVs_get hv
  have hc1:=mut_of_pure (by simp only [cloL,encV_clo,Bool.and_self]) (copy18 W _ v (Nat.lt_succ_self _) (okV_cnt v (by omega)) (by omega))
  have hc2:=mut_of_pure (by simp only [cloL,encV_clo,Bool.and_self];rfl) (match20 W hk hcq t (x:=v) (by omega))
  have hc3:=mut_of_pure (by simp only [cloL,encV_clo,Bool.and_self]) ((bothR W _).2 q _ _ _ hk (Nat.lt_succ_self _) hcq htq v (by omega) (tnVs_mem htl v hvm))
  have hc4:=eq67m W v v (by omega)
  rw [eqV_true] at hc4
  unfold filA at hc2
  have hil:decide ((i:Int)<((encVs l).length:Int))=true:=by rw [encVs_len];exact decide_eq_true (by omega)
  generalize qN (sizeV q+1) q=C at hnx hc2 ⊢
  cases hm:matchF (sizeV q+1) q v with
  | true =>
   rw [hm] at hc2 hc3
   obtain ⟨hx,lx⟩:=q
   obtain ⟨h,k⟩:=v
   exact loop_next (body_of_sbodyK mixedz (b3_0 W hx h lx l k i t C) Fm2_z2 [] [] Fm2_z1) hnx
  | false =>
   rw [hm] at hc2 hc3
   obtain ⟨hx,lx⟩:=q
   obtain ⟨h,k⟩:=v
   exact loop_next (body_of_sbodyK mixedz (c3_0 W hx h lx l k i t C) Fm2_z2 [] [] Fm2_z1) hnx
theorem matches3 (q:JV) (l:List JV) (hq:cntV q<=2 ^ 29) (hl:cntVs l<=2 ^ 29) (hnm:nmV q) (htq:tnV q) (htl:tnVs l):Pure Tryz.prog W 3 [encV q,.sl 5 (encVs l) []] (bA true):=by
 obtain ⟨w,hw⟩:=large14 W [q] (by simp only [cntVs];omega)
 obtain ⟨w2,hw2⟩:=large14 W l (by omega)
 have hc1:MutC Tryz.prog W 14 [.gs 100001 0 1] [(100001,.arr 25 5 [encV q] .own)] (.ret (bA w) [(100001,.arr 25 5 [encV q] .own)]) :=
  mut_of_pureFlat (frz2 rfl (by simp [Frzable,cloL,encV_clo])) rfl (by rfl) rfl hw
 have hc5:=mut_of_pure (by rfl) hw2
 have hc2:=mut_of_pure (by rfl) (live15 W)
 have hk:=check16 W (n:=sizeV q+1) (q:=q) (Nat.lt_succ_self _) (by omega) hnm
 cases w with
 | true =>
  obtain ⟨h,l0⟩:=q
  exact pure_of_mut rfl (mut_of_sfun mixedz call3 rfl (p3_0 W h l0 l true true) Fm2_z2)
 | false =>
 cases w2 with
 | true =>
  obtain ⟨h,l0⟩:=q
  exact pure_of_mut rfl (mut_of_sfun mixedz call3 rfl (p3_1 W h l0 l false true true) Fm2_z2)
 | false =>
  cases er:chkQ (sizeV q+1) q 0 0 with
  | error e =>
   have hne:=(chk_err _).2 _ _ _ _ er
   rw [er] at hk
   unfold chkA at hk
   have hc3:=mut_of_pure (by simp only [cloL,encV_clo,Bool.and_self]) (pure_leR (.tup (.cons (.refl _) (.cons (.top _) .nil))) hk)
   have hb1:(!decide (e=0))=true:=by rw [decide_eq_false hne];rfl
   obtain ⟨h,l0⟩:=q
   exact pure_of_mut rfl (mut_of_sfun mixedz call3 rfl (p3_2 W h l0 l e false false true) Fm2_z2)
  | ok t =>
   rw [er] at hk
   unfold chkA at hk
   have hk2:Pure Tryz.prog W 16 [encV q] (.tup [iA 0,.top]):=pure_leR (.tup (.cons (.refl _) (.cons (.top _) .nil))) hk
   have hc3:=mut_of_pure (by simp only [cloL,encV_clo,Bool.and_self]) hk2
   have hb1:(!decide ((0:Int)=0))=false:=rfl
   have hc4:=mut_of_pure (by simp only [cloL,encV_clo,Bool.and_self]) (parse17 W er (Nat.lt_succ_self _) (by omega) hnm)
   have hc6:=mut_of_pure (by simp only [cloL,encV_clo,Bool.and_self]) (copy18 W _ q (Nat.lt_succ_self _) (okV_cnt q (by omega)) (by omega))
   have hlp:=loop3 W er (by omega) htq l (by omega) htl _ 0 rfl (Nat.zero_le _)
   unfold filA at hc4
   generalize qN (sizeV q+1) q=C at hc4 hlp
   obtain ⟨h,l0⟩:=q
   exact pure_of_mut rfl (mut_of_sfun mixedz call3 rfl (p3_3 W h l0 l t 0 false false true C) Fm2_z2)
end
end Go.Ac

