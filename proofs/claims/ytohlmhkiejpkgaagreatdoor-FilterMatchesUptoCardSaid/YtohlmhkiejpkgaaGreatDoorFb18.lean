/- What is proved: contracts of functions of this translation, walked; their plain meaning. No condition beyond those that each theorem names. -/
import Derived.Test.YtohlmhkiejpkgaaGreatDoorFb17
set_option linter.all false
namespace Go.Ac
open Go Go.Proofs
set_option maxRecDepth 10000
set_option maxHeartbeats 1000000
theorem Fb18_z1 {kp f ph σ σ'} (h:MatchK kp f ph σ σ':=by exact ⟨by rfl,(by simp only [S146,E146,S61i,ckH,endK,innK,tOK,List.map_cons,List.map_nil,and_true]<;>exact zt),(by simp only [S146,E146,S61i,ckH,endK,innK,hOK,List.map_cons,List.map_nil,and_true]<;>exact zh),(by simp only [S146,E146,S61i,ckH,endK,innK,liveT,List.map_cons,List.map_nil,and_true]<;>exact zv),(by simp only [S146,E146,S61i,ckH,endK,innK,liveH,List.map_cons,List.map_nil,and_true]<;>exact zv)⟩):MatchK kp f ph σ σ':=h
theorem Fb18_z2 {cs} (h:Holds cs:=by simp only [Holds,and_true]<;>and_intros<;>first|exact zd):Holds cs:=h
theorem Fb18_z3 {cs} (h:Holds cs:=by simp only [Holds,and_true]<;>and_intros<;>first|exact zd|exact Fb18_z1):Holds cs:=h
theorem stQ_le {n:Nat} {d t t1:Int} {p:List UInt8×JV} (h:stQ n d p t=.ok t1):t<=t1/\(t<=64->t1<=64):=by
 unfold stQ at h
 split at h
 ·split at h
  ·cases h
  ·exact foldX_le (fun y hy u u' hu=>(chk_le n).2 _ _ _ _ hu) h
 split at h
 ·cases h
 ·exact clR_le h
theorem stQ_err {n:Nat} {d t e:Int} {p:List UInt8×JV} (h:stQ n d p t=.error e):e ≠ 0:=by
 unfold stQ at h
 split at h
 ·split at h
  ·cases h;decide
  ·exact foldX_err (fun y hy u e hu=>(chk_err n).2 _ _ _ _ hu) h
 split at h
 ·cases h;decide
 ·exact clR_err h
section
variable (W:World)
section
variable (h:JH) (l:List JV) (h2:JH) (l2:List JV)
theorem k61 (d e:Int) (he:e ≠ 0) (i k:Nat):LoopC Tryz.prog W [100000] (nslots Tryz.prog 61) (loopOf Tryz.prog 61 1) (S61i h2 l2 h l d .top e i k) (.exit 3) (S146 h l d .top e i):=by
 have hb1:decide (e=0)=false:=decide_eq_false he
 exact loop_last (by simp) (body_of_sbodyK mixedz (k61_0 W h l d 0 e i k h2 l2) Fb18_z2 [] [] Fb18_z1)
theorem inner61 (n:Nat) (hQ:QueryK W n) (d:Int) (hd:0<=d/\d<=16) (hs:∀ y ∈ l2,sizeV y<n/\cntV y<=2 ^ 30/\nmV y) (hl2:l2.length<=2 ^ 30) (i:Nat):∀ (q k:Nat) (t:Int),l2.length - k=q->k<=l2.length->0<=t->t<=64 →
 LoopC Tryz.prog W [100000] (nslots Tryz.prog 61) (loopOf Tryz.prog 61 1) (S61i h2 l2 h l d (iA t) 0 i k) (.exit 3) (innK h l d i (foldX (fun y t=>chkQ n y (d+1) t) (l2.drop k) t)):=by
 have hwd:IntKind.i64.wrap (d+1)=d+1:=IntWalk.i64_in _ (by omega)
 intro q
 induction q with
 | zero =>
  intro k t hk h1 ht0 ht1
  have hil:k=l2.length:=by omega
  rw [hil,List.drop_length]
  simp only [foldX]
  rw [<-hil]
  have hb1:decide ((k:Int)<((encVs l2).length:Int))=false:=decide_eq_false (by rw [encVs_len];omega)
  exact loop_last (by simp) (body_of_sbodyK mixedz (oi61_1 W h l d t i k h2 l2) Fb18_z2 [] [] Fb18_z1)
 | succ q ih =>
  intro k t hk h1 ht0 ht1
  obtain ⟨y,hy⟩:=getOf (l:=l2) (i:=k) (by omega)
  have hws:IntKind.i64.wrap ((k:Int)+1)=((k+1:Nat):Int):=wrap_succ (by omega)
  have hb1:decide ((k:Int)<((encVs l2).length:Int))=true:=decide_eq_true (by rw [encVs_len];omega)
  have hget:(encVs l2)[((k:Int)).toNat]?=some (encV y):=by rw [Int.toNat_natCast];exact encVs_get hy
  obtain ⟨y1,y2,y3⟩:=hs y (List.mem_of_getElem? hy)
  have hh:=hQ y (d+1) t y1 y2 y3 (by omega) (by omega) ht0 ht1
  rw [drop_get hy,foldX]
  cases er:chkQ n y (d+1) t with
  | ok t1 =>
   have hle:=(chk_le n).2 _ _ _ _ er
   rw [er,<-hwd] at hh
   unfold ckO at hh
   have hc:=hh
   have hih:=ih (k+1) t1 (by omega) (by omega) (by omega) (hle.2 ht1)
   obtain ⟨h3,l3⟩:=y
   exact loop_next (body_of_sbodyK (σ3:=S61i h2 l2 h l d (iA t1) 0 i (k+1:Nat)) mixedz (oi61_0 W h l d t t1 i k h2 l2 h3 l3) Fb18_z2 [] [] Fb18_z1) hih
  | error e1 =>
   have hne:=(chk_err n).2 _ _ _ _ er
   rw [er,<-hwd] at hh
   unfold ckO at hh
   have hc:=hh
   obtain ⟨h3,l3⟩:=y
   exact loop_next (body_of_sbodyK (σ3:=S61i h2 l2 h l d .top e1 i (k+1:Nat)) mixedz (xi61_0 W h l d t e1 i k h2 l2 h3 l3) Fb18_z2 [] [] Fb18_z1) (k61 W h l h2 l2 d e1 hne i (k+1))
end
theorem loop61 (h:JH) (l:List JV) (n:Nat) (hT:TestK W n) (hQ:QueryK W n) (hsz:sizeV (.mk h l)<=n) (hcn:cntV (.mk h l)<=2 ^ 30) (hnm:nmV (.mk h l)) (d:Int) (hd:0<=d/\d<=16):∀ (k i:Nat) (t:Int),(JV.mk h l).mems.length - i=k->i<=(JV.mk h l).mems.length->0<=t->t<=64 →
 LoopC Tryz.prog W [100000] (nslots Tryz.prog 61) (loopOf Tryz.prog 61 0) (S146 h l d (iA t) 0 i) (.exit 0) (endK (foldX (stQ n d) ((JV.mk h l).mems.drop i) t)):=by
 have hml:=JV.mems_len (.mk h l)
 have hln:=mems_ln (.mk h l)
 have hc:=mut_of_pure (by simp only [cloL,encV_clo,Bool.and_self]) (members65 W (.mk h l))
 intro k
 induction k with
 | zero =>
  intro i t hk h1 ht0 ht1
  have hil:i=(JV.mk h l).mems.length:=by omega
  rw [hil,List.drop_length]
  simp only [foldX]
  rw [<-hil]
  have hb1:decide ((i:Int)<(((JV.mk h l).mem:Nat):Int))=false:=decide_eq_false (by omega)
  exact loop_last (by simp) (body_of_sbodyK mixedz (y61_0 W h l d t ((JV.mk h l).mem:Nat) i) Fb18_z2 [] [] Fb18_z1)
 | succ k ih =>
  intro i t hk h1 ht0 ht1
  obtain ⟨p,hp⟩:=getOf (l:=(JV.mk h l).mems) (i:=i) (by omega)
  have hws:IntKind.i64.wrap ((i:Int)+1)=((i+1:Nat):Int):=wrap_succ (by omega)
  have hb1:decide ((i:Int)<(((JV.mk h l).mem:Nat):Int))=true:=decide_eq_true (by omega)
  have hpm:=mems_mem (List.mem_of_getElem? hp)
  have hpi:=mem_item hpm.2
  have hxn:=nmV_mem hnm hpm.2
  have hsn:=nmV_name hnm hpm.1
  have hle:=fun t1=>@stQ_le n d t t1 p
  have her:=fun e=>@stQ_err n d t e p
  rw [drop_get hp,foldX]
  obtain ⟨s,x⟩:=p
  have hz:=(List.getElem?_zip_eq_some (l₁:=h.names) (l₂:=l) (i:=i)).1 hp
  obtain ⟨hx,hv⟩:=hz
  simp only at hx hv hpi hpm hxn hsn
  have hget:(List.map AV.str h.names)[((i:Int)).toNat]?=some (AV.str s):=by rw [Int.toNat_natCast];exact strs_get hx
  have hget2:(encVs l)[((i:Int)).toNat]?=some (encV x):=by rw [Int.toNat_natCast];exact encVs_get hv
  have hc1:=mut_of_pure (by rfl) (joins70 W s)
  have hc2:=mut_of_pure (by rfl) (dollar69 W s)
  have goE:∀ e1,stQ n d (s,x) t=.error e1->BodyC Tryz.prog W [100000] (nslots Tryz.prog 61) (loopOf Tryz.prog 61 0) (S146 h l d (iA t) 0 i) .normal (S146 h l d .top e1 (i+1:Nat))->LoopC Tryz.prog W [100000] (nslots Tryz.prog 61) (loopOf Tryz.prog 61 0) (S146 h l d (iA t) 0 i) (.exit 0) (endK (match stQ n d (s,x) t with|.ok t'=>foldX (stQ n d) ((JV.mk h l).mems.drop (i+1)) t'|.error e=>.error e)):=by
   intro e1 e hb
   rw [e]
   exact loop_next hb (z61 W h l d e1 (her e1 e) (i+1))
  have goO:∀ t1,stQ n d (s,x) t=.ok t1->BodyC Tryz.prog W [100000] (nslots Tryz.prog 61) (loopOf Tryz.prog 61 0) (S146 h l d (iA t) 0 i) .normal (S146 h l d (iA t1) 0 (i+1:Nat))->LoopC Tryz.prog W [100000] (nslots Tryz.prog 61) (loopOf Tryz.prog 61 0) (S146 h l d (iA t) 0 i) (.exit 0) (endK (match stQ n d (s,x) t with|.ok t'=>foldX (stQ n d) ((JV.mk h l).mems.drop (i+1)) t'|.error e=>.error e)):=by
   intro t1 e hb
   have q:=hle t1 e
   rw [e]
   exact loop_next hb (ih (i+1) t1 (by omega) (by omega) (by omega) (q.2 ht1))
  cases ej:joinsB s with
  | true =>
   rw [ej] at hc1
   by_cases hno:x.kind ≠ 5\/x.items=[]
   ·have e:stQ n d (s,x) t=.error 42:=by unfold stQ;rw [if_pos ej,if_pos hno]
    refine goE 42 e ?_
    obtain ⟨h2,l2⟩:=x
    have hlp:=k61 W h l h2 l2 d 42 (by decide) i 0
    by_cases k5:h2.kind=5
    ·have hb3:(!decide (h2.kind=5))=false:=by rw [decide_eq_true k5];rfl
     have hl0:l2=[]:=by rcases hno with q|q;exact absurd k5 q;exact q
     have hb2:decide (((encVs l2).length:Int)=0)=true:=by rw [hl0];rfl
     exact body_of_sbodyK mixedz (h61e_0 W h l d t ((JV.mk h l).mem:Nat) i s h2 l2) Fb18_z3 [] [] Fb18_z1
    ·have hb3:(!decide (h2.kind=5))=true:=by rw [decide_eq_false k5];rfl
     exact body_of_sbodyK mixedz (h61k_0 W h l d t ((JV.mk h l).mem:Nat) i s h2 l2) Fb18_z3 [] [] Fb18_z1
   ·have k5:x.kind=5:=Classical.byContradiction fun q=>hno (.inl q)
    have hne:x.items ≠ []:=fun q=>hno (.inr q)
    have e:stQ n d (s,x) t=foldX (fun y t=>chkQ n y (d+1) t) x.items t:=by unfold stQ;rw [if_pos ej,if_neg hno]
    obtain ⟨h2,l2⟩:=x
    have hb3:(!decide (h2.kind=5))=false:=by rw [decide_eq_true (show h2.kind=5 from k5)];rfl
    have hb2:decide (((encVs l2).length:Int)=0)=false:=decide_eq_false (by rw [encVs_len];have:=List.length_pos_iff.2 (show l2 ≠ [] from hne);omega)
    have hcl2:=cntV_len (.mk h2 l2)
    simp only [JV.items] at hcl2
    have hlp:=inner61 W h l h2 l2 n hQ d hd (fun y hy=>by
     have:=mem_item (v:=.mk h2 l2) hy
     exact ⟨by omega,by omega,nmV_mem (v:=.mk h2 l2) hxn hy⟩) (by omega) i _ 0 t rfl (by omega) ht0 ht1
    rw [List.drop_zero] at hlp
    cases er:foldX (fun y t=>chkQ n y (d+1) t) l2 t with
    | ok t1 =>
     rw [er] at hlp
     unfold innK at hlp
     exact goO t1 (e.trans er) (body_of_sbodyK mixedz (g61o_0 W h l d t t1 ((JV.mk h l).mem:Nat) i s h2 l2) Fb18_z3 [] [] Fb18_z1)
    | error e1 =>
     rw [er] at hlp
     unfold innK at hlp
     exact goE e1 (e.trans er) (body_of_sbodyK mixedz (g61x_0 W h l d t e1 ((JV.mk h l).mem:Nat) i s h2 l2) Fb18_z3 [] [] Fb18_z1)
  | false =>
   rw [ej] at hc1
   cases ed:dollarB s with
   | true =>
    rw [ed] at hc2
    have e:stQ n d (s,x) t=.error 41:=by unfold stQ;rw [if_neg (by rw [ej];decide),if_pos ed]
    refine goE 41 e ?_
    obtain ⟨h2,l2⟩:=x
    exact body_of_sbodyK mixedz (o61_0 W h l d t ((JV.mk h l).mem:Nat) i s h2 l2 true) Fb18_z2 [] [] Fb18_z1
   | false =>
    rw [ed] at hc2
    have e:stQ n d (s,x) t=clR n s x d t:=by unfold stQ;rw [if_neg (by rw [ej];decide),if_neg (by rw [ed];decide)]
    have hcl:=clause105 W n hT s x d t (by omega) (by omega) hxn hsn hd ⟨ht0,ht1⟩
    cases er:clR n s x d t with
    | ok t1 =>
     rw [er] at hcl
     unfold ckO at hcl
     have hc3:=hcl
     refine goO t1 (e.trans er) ?_
     obtain ⟨h2,l2⟩:=x
     exact body_of_sbodyK mixedz (o61_1 W h l d t t1 ((JV.mk h l).mem:Nat) i s h2 l2 false) Fb18_z2 [] [] Fb18_z1
    | error e1 =>
     rw [er] at hcl
     unfold ckO at hcl
     have hc3:=hcl
     refine goE e1 (e.trans er) ?_
     obtain ⟨h2,l2⟩:=x
     exact body_of_sbodyK mixedz (x61_0 W h l d t e1 ((JV.mk h l).mem:Nat) i s h2 l2 false) Fb18_z2 [] [] Fb18_z1
theorem queryK_step (n:Nat) (hT:TestK W n) (hQ:QueryK W n):QueryK W (n+1):=by
 intro v d t hsz hcn hnm hd0 hd17 ht0 ht64
 obtain ⟨h,l⟩:=v
 rw [chkQ_eq]
 by_cases k6:h.kind=6
 case neg =>
  have hb1:(!decide (h.kind=6))=true:=by rw [decide_eq_false k6];rfl
  rw [if_pos (show (JV.mk h l).kind ≠ 6 from k6)]
  exact err_of W (mut_of_sfun mixedz call61 rfl (p61o_0 W h l d t) Fb18_z2)
 have hb1:(!decide (h.kind=6))=false:=by rw [decide_eq_true k6];rfl
 rw [if_neg (show ¬ (JV.mk h l).kind ≠ 6 from fun q=>q k6)]
 by_cases hd:16<d
 ·rw [if_pos hd]
  exact err_of W (mut_of_sfun mixedz call61 rfl (p61o_1 W h l d t) Fb18_z2)
 rw [if_neg hd]
 have hlp:=loop61 W h l n hT hQ (by omega) hcn hnm d ⟨hd0,by omega⟩ _ 0 t rfl (by omega) ht0 ht64
 rw [List.drop_zero] at hlp
 cases er:foldX (stQ n d) (JV.mk h l).mems t with
 | ok t2 =>
  rw [er] at hlp
  unfold endK at hlp
  exact mut_of_sfun mixedz call61 rfl (p61o_2 W h l d t t2) Fb18_z3
 | error e =>
  rw [er] at hlp
  unfold endK at hlp
  exact mut_of_sfun mixedz call61 rfl (p61x_2 W h l d t e) Fb18_z3
theorem checks:∀ n,TestK W n/\QueryK W n
 | 0=>⟨fun v d t h=>by omega,fun v d t h=>by omega⟩
 | n+1=>⟨testK_step W n (checks n).1 (checks n).2,queryK_step W n (checks n).1 (checks n).2⟩
def chkA:Except Int Int->AV
 | .ok t=>.tup [iA 0,iA t]
 | .error e=>.tup [iA e,.top]
theorem check16 {n:Nat} {q:JV} (hsz:sizeV q<n) (hcn:cntV q<=2 ^ 30) (hnm:nmV q):Pure Tryz.prog W 16 [encV q] (chkA (chkQ n q 0 0)):=by
 have h1:=(checks W n).2 q 0 0 hsz hcn hnm (Int.le_refl _) (by omega) (Int.le_refl _) (by omega)
 have hcl:cloL [encV q,iA 0]=true:=by simp [cloL,encV_clo,iA,AV.clo]
 cases er:chkQ n q 0 0 with
 | ok t =>
  rw [er] at h1
  unfold ckO at h1
  have hc:=mut_name (k1:=100000) (k2:=100001) (x:=.agg [iA 0,iA 0]) (y:=.agg [iA t,iA 0]) (rest:=[encV q,iA 0]) (by omega) rfl rfl rfl rfl hcl h1
  obtain ⟨h,l⟩:=q
  exact pure_of_mut rfl (mut_of_sfun mixedz call16 rfl (p16o_0 W h l t) Fb18_z2)
 | error e =>
  rw [er] at h1
  unfold ckO at h1
  have hc:=mut_name (k1:=100000) (k2:=100001) (x:=.agg [iA 0,iA 0]) (y:=.agg [.top,iA e]) (rest:=[encV q,iA 0]) (by omega) rfl rfl rfl rfl hcl h1
  obtain ⟨h,l⟩:=q
  exact pure_of_mut rfl (mut_of_sfun mixedz call16 rfl (p16x_0 W h l e) Fb18_z2)
end
end Go.Ac

