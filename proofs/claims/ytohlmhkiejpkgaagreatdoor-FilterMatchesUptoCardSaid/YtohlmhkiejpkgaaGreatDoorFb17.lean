/- What is proved: contracts of functions of this translation, walked; their plain meaning. No condition beyond those that each theorem names. -/
import Derived.Test.YtohlmhkiejpkgaaGreatDoorFb16
set_option linter.all false
namespace Go.Ac
open Go Go.Proofs
set_option maxRecDepth 10000
set_option maxHeartbeats 1000000
theorem Fb17_z1 {kp f ph σ σ'} (h:MatchK kp f ph σ σ':=by exact ⟨by rfl,(by simp only [S146,E146,S61i,ckH,endK,innK,tOK,List.map_cons,List.map_nil,and_true]<;>exact zt),(by simp only [S146,E146,S61i,ckH,endK,innK,hOK,List.map_cons,List.map_nil,and_true]<;>exact zh),(by simp only [S146,E146,S61i,ckH,endK,innK,liveT,List.map_cons,List.map_nil,and_true]<;>exact zv),(by simp only [S146,E146,S61i,ckH,endK,innK,liveH,List.map_cons,List.map_nil,and_true]<;>exact zv)⟩):MatchK kp f ph σ σ':=h
theorem Fb17_z2 {cs} (h:Holds cs:=by simp only [Holds,and_true]<;>and_intros<;>first|exact zd):Holds cs:=h
theorem Fb17_z3 {cs} (h:Holds cs:=by simp only [Holds,and_true]<;>and_intros<;>first|exact zd|exact Fb17_z1):Holds cs:=h
def endK:Except Int Int->AS
 | .ok t=>E146 (iA t) 0
 | .error e=>E146 .top e
def innK (h:JH) (l:List JV) (d:Int) (i:Nat):Except Int Int->AS
 | .ok t=>S146 h l d (iA t) 0 i
 | .error e=>S146 h l d .top e i
def clR (n:Nat) (s:List UInt8) (x:JV) (d t:Int):Except Int Int:=if parseE s ≠ 0 then .error 20 else if isTestB x=true then chkT n x d t else if 64<=t then .error 43 else .ok (t+1)
def stT (n:Nat) (d:Int) (p:List UInt8×JV) (t:Int):Except Int Int:=if 64<=t then .error 43 else opR n p.1 p.2 d (t+1)
def stQ (n:Nat) (d:Int) (p:List UInt8×JV) (t:Int):Except Int Int:=if joinsB p.1=true then (if p.2.kind ≠ 5\/p.2.items=[] then .error 42 else foldX (fun y t=>chkQ n y (d+1) t) p.2.items t) else if dollarB p.1=true then .error 41 else clR n p.1 p.2 d t
theorem chkT_eq (n:Nat) (v:JV) (d t:Int):chkT (n+1) v d t=if v.kind ≠ 6\/v.mems=[] then .error 40 else if 16<d then .error 44 else foldX (stT n d) v.mems t:=by rw [chkT];rfl
theorem chkQ_eq (n:Nat) (v:JV) (d t:Int):chkQ (n+1) v d t=if v.kind ≠ 6 then .error 40 else if 16<d then .error 44 else foldX (stQ n d) v.mems t:=by rw [chkQ];rfl
theorem stT_le {n:Nat} {d t t1:Int} {p:List UInt8×JV} (h:stT n d p t=.ok t1):t<=t1/\t1<=64:=by
 unfold stT at h
 split at h
 ·cases h
 rename_i q
 unfold opR at h
 split at h
 ·cases h
 split at h
 ·cases h
 split at h
 ·have:=(chk_le n).1 _ _ _ _ h;exact ⟨by omega,this.2 (by omega)⟩
 split at h
 ·split at h
  ·have:=(chk_le n).1 _ _ _ _ h;exact ⟨by omega,this.2 (by omega)⟩
  ·have:=(chk_le n).2 _ _ _ _ h;exact ⟨by omega,this.2 (by omega)⟩
 ·cases h;omega
theorem stT_err {n:Nat} {d t e:Int} {p:List UInt8×JV} (h:stT n d p t=.error e):e ≠ 0:=by
 unfold stT at h
 split at h
 ·cases h;decide
 unfold opR at h
 split at h
 ·cases h;decide
 split at h
 ·cases h;decide
 split at h
 ·exact (chk_err n).1 _ _ _ _ h
 split at h
 ·split at h
  ·exact (chk_err n).1 _ _ _ _ h
  ·exact (chk_err n).2 _ _ _ _ h
 ·cases h
theorem clR_le {n:Nat} {d t t1:Int} {s:List UInt8} {x:JV} (h:clR n s x d t=.ok t1):t<=t1/\(t<=64->t1<=64):=by
 unfold clR at h
 split at h
 ·cases h
 split at h
 ·exact (chk_le n).1 _ _ _ _ h
 split at h
 ·cases h
 ·cases h;exact ⟨by omega,fun _=>by omega⟩
theorem clR_err {n:Nat} {d t e:Int} {s:List UInt8} {x:JV} (h:clR n s x d t=.error e):e ≠ 0:=by
 unfold clR at h
 split at h
 ·cases h;decide
 split at h
 ·exact (chk_err n).1 _ _ _ _ h
 split at h
 ·cases h;decide
 ·cases h
section
variable (W:World)
section
variable (h:JH) (l:List JV)
theorem z146 (d e:Int) (he:e ≠ 0) (i:Nat):LoopC Tryz.prog W [100000] (nslots Tryz.prog 146) (loopOf Tryz.prog 146 0) (S146 h l d .top e i) (.exit 0) (E146 .top e):=by
 have hc:=mut_of_pure (by simp only [cloL,encV_clo,Bool.and_self]) (members65 W (.mk h l))
 have hb1:decide (e=0)=false:=decide_eq_false he
 refine loop_last (by simp) ?_
 by_cases q:(i:Int)<((JV.mk h l).mem:Nat)
 ·exact body_of_sbodyK mixedz (z146_0 W h l d 0 e ((JV.mk h l).mem:Nat) i) Fb17_z2 [] [] Fb17_z1
 ·exact body_of_sbodyK mixedz (z146_1 W h l d 0 e ((JV.mk h l).mem:Nat) i) Fb17_z2 [] [] Fb17_z1
theorem z61 (d e:Int) (he:e ≠ 0) (i:Nat):LoopC Tryz.prog W [100000] (nslots Tryz.prog 61) (loopOf Tryz.prog 61 0) (S146 h l d .top e i) (.exit 0) (E146 .top e):=by
 have hc:=mut_of_pure (by simp only [cloL,encV_clo,Bool.and_self]) (members65 W (.mk h l))
 have hb1:decide (e=0)=false:=decide_eq_false he
 refine loop_last (by simp) ?_
 by_cases q:(i:Int)<((JV.mk h l).mem:Nat)
 ·exact body_of_sbodyK mixedz (z61_0 W h l d 0 e ((JV.mk h l).mem:Nat) i) Fb17_z2 [] [] Fb17_z1
 ·exact body_of_sbodyK mixedz (z61_1 W h l d 0 e ((JV.mk h l).mem:Nat) i) Fb17_z2 [] [] Fb17_z1
theorem loop146 (n:Nat) (hT:TestK W n) (hQ:QueryK W n) (hsz:sizeV (.mk h l)<=n) (hcn:cntV (.mk h l)<=2 ^ 30) (hnm:nmV (.mk h l)) (d:Int) (hd:0<=d/\d<=16):∀ (k i:Nat) (t:Int),(JV.mk h l).mems.length - i=k->i<=(JV.mk h l).mems.length->0<=t->t<=64 →
 LoopC Tryz.prog W [100000] (nslots Tryz.prog 146) (loopOf Tryz.prog 146 0) (S146 h l d (iA t) 0 i) (.exit 0) (endK (foldX (stT n d) ((JV.mk h l).mems.drop i) t)):=by
 have hml:=JV.mems_len (.mk h l)
 have hln:=mems_ln (.mk h l)
 have hc:=mut_of_pure (by simp only [cloL,encV_clo,Bool.and_self]) (members65 W (.mk h l))
 intro k
 induction k with
 | zero =>
  intro i t hk h1 ht0 ht1
  have hil:i=(JV.mk h l).mems.length:=by omega
  rw [hil,List.drop_length]
  simp only [foldX]
  rw [<-hil]
  have hb1:decide ((i:Int)<(((JV.mk h l).mem:Nat):Int))=false:=decide_eq_false (by omega)
  exact loop_last (by simp) (body_of_sbodyK mixedz (y146_0 W h l d t ((JV.mk h l).mem:Nat) i) Fb17_z2 [] [] Fb17_z1)
 | succ k ih =>
  intro i t hk h1 ht0 ht1
  obtain ⟨p,hp⟩:=getOf (l:=(JV.mk h l).mems) (i:=i) (by omega)
  have hws:IntKind.i64.wrap ((i:Int)+1)=((i+1:Nat):Int):=wrap_succ (by omega)
  have hwt:IntKind.i64.wrap (t+1)=t+1:=IntWalk.i64_in _ (by omega)
  have hb1:decide ((i:Int)<(((JV.mk h l).mem:Nat):Int))=true:=decide_eq_true (by omega)
  have hpm:=mems_mem (List.mem_of_getElem? hp)
  have hpi:=mem_item hpm.2
  rw [drop_get hp,foldX]
  obtain ⟨s,x⟩:=p
  have hz:=(List.getElem?_zip_eq_some (l₁:=h.names) (l₂:=l) (i:=i)).1 hp
  obtain ⟨hx,hv⟩:=hz
  simp only at hx hv hpi hpm
  have hget:(List.map AV.str h.names)[((i:Int)).toNat]?=some (AV.str s):=by rw [Int.toNat_natCast];exact strs_get hx
  have hget2:(encVs l)[((i:Int)).toNat]?=some (encV x):=by rw [Int.toNat_natCast];exact encVs_get hv
  by_cases h64:64<=t
  ·have e:stT n d (s,x) t=.error 43:=by unfold stT;rw [if_pos h64]
   rw [e]
   obtain ⟨h2,l2⟩:=x
   exact loop_next (body_of_sbodyK (σ3:=S146 h l d .top 43 (i+1:Nat)) mixedz (o146_0 W h l d t ((JV.mk h l).mem:Nat) i) Fb17_z2 [] [] Fb17_z1) (z146 W h l d 43 (by decide) (i+1))
  ·have e:stT n d (s,x) t=opR n s x d (t+1):=by unfold stT;rw [if_neg h64]
   have hop:=op168 W n hT hQ s x d (t+1) (by omega) (by omega) (nmV_mem hnm hpm.2) hd (by omega)
   have hb2:decide (64<=t)=false:=decide_eq_false h64
   cases er:opR n s x d (t+1) with
   | ok t1 =>
    have hle:=stT_le (e.trans er)
    rw [er,<-hwt] at hop
    unfold ckO at hop
    have hc2:=hop
    have hih:=ih (i+1) t1 (by omega) (by omega) (by omega) hle.2
    rw [e,er]
    obtain ⟨h2,l2⟩:=x
    exact loop_next (body_of_sbodyK (σ3:=S146 h l d (iA t1) 0 (i+1:Nat)) mixedz (o146_1 W h l d t t1 ((JV.mk h l).mem:Nat) i s h2 l2) Fb17_z2 [] [] Fb17_z1) hih
   | error e1 =>
    have hne:=stT_err (e.trans er)
    rw [er,<-hwt] at hop
    unfold ckO at hop
    have hc2:=hop
    rw [e,er]
    obtain ⟨h2,l2⟩:=x
    exact loop_next (body_of_sbodyK (σ3:=S146 h l d .top e1 (i+1:Nat)) mixedz (x146_0 W h l d t e1 ((JV.mk h l).mem:Nat) i s h2 l2) Fb17_z2 [] [] Fb17_z1) (z146 W h l d e1 hne (i+1))
end
theorem testK_step (n:Nat) (hT:TestK W n) (hQ:QueryK W n):TestK W (n+1):=by
 intro v d t hsz hcn hnm hd0 hd17 ht0 ht64
 obtain ⟨h,l⟩:=v
 have hml:=JV.mems_len (.mk h l)
 have hc:=mut_of_pure (by simp only [cloL,encV_clo,Bool.and_self]) (members65 W (.mk h l))
 rw [chkT_eq]
 by_cases k6:h.kind=6
 case neg =>
  have hb1:(!decide (h.kind=6))=true:=by rw [decide_eq_false k6];rfl
  rw [if_pos (.inl k6)]
  exact err_of W (mut_of_sfun mixedz call146 rfl (p146o_0 W h l d t) Fb17_z2)
 have hb1:(!decide (h.kind=6))=false:=by rw [decide_eq_true k6];rfl
 by_cases hm:(JV.mk h l).mems=[]
 ·have hb2:decide ((((JV.mk h l).mem:Nat):Int)=0)=true:=decide_eq_true (by rw [<-hml,hm];rfl)
  rw [if_pos (.inr hm)]
  exact err_of W (mut_of_sfun mixedz call146 rfl (p146o_1 W h l d t ((JV.mk h l).mem:Nat)) Fb17_z2)
 have hb2:decide ((((JV.mk h l).mem:Nat):Int)=0)=false:=decide_eq_false (by rw [<-hml];have:=List.length_pos_iff.2 hm;omega)
 rw [if_neg (by rintro (q|q);exact q k6;exact hm q)]
 by_cases hd:16<d
 ·rw [if_pos hd]
  exact err_of W (mut_of_sfun mixedz call146 rfl (p146o_2 W h l d t ((JV.mk h l).mem:Nat)) Fb17_z2)
 rw [if_neg hd]
 have hlp:=loop146 W h l n hT hQ (by omega) hcn hnm d ⟨hd0,by omega⟩ _ 0 t rfl (by omega) ht0 ht64
 rw [List.drop_zero] at hlp
 cases er:foldX (stT n d) (JV.mk h l).mems t with
 | ok t2 =>
  rw [er] at hlp
  unfold endK at hlp
  exact mut_of_sfun mixedz call146 rfl (p146o_3 W h l d t t2 ((JV.mk h l).mem:Nat)) Fb17_z3
 | error e =>
  rw [er] at hlp
  unfold endK at hlp
  exact mut_of_sfun mixedz call146 rfl (p146x_3 W h l d t e ((JV.mk h l).mem:Nat)) Fb17_z3
theorem clause105 (n:Nat) (hT:TestK W n) (s:List UInt8) (x:JV) (d t:Int) (hs:sizeV x<n) (hcn:cntV x<=2 ^ 30) (hnm:nmV x) (hns:s.length<=2 ^ 30) (hd:0<=d/\d<=16) (ht:0<=t/\t<=64):MutC Tryz.prog W 105 [.gp 100000 0,.str s,encV x,iA d] (ckH (iA t) (iA 0)) (ckO (clR n s x d t)):=by
 have hwt:IntKind.i64.wrap (t+1)=t+1:=IntWalk.i64_in _ (by omega)
 have hc1:=mut_of_pure (by rfl) (Parse23 W s hns)
 unfold parseAV at hc1
 have hc2:=mut_of_pure (by simp only [cloL,encV_clo,Bool.and_self]) (first74 W x)
 have hc3:=mut_of_pure (by rfl) (dollar69 W (firstS x))
 have hh:=hT x d t hs hcn hnm hd.1 (by omega) ht.1 ht.2
 unfold clR
 by_cases hp:parseE s=0
 case neg =>
  have hb1:(!decide (parseE s=0))=true:=by rw [decide_eq_false hp];rfl
  rw [if_pos hp]
  obtain ⟨h,l⟩:=x
  exact err_of W (mut_of_sfun mixedz call105 rfl (p105_0 W h l d t (parseE s) s ((parseP s).map AV.str) (parseA s)) Fb17_z2)
 have hb1:(!decide (parseE s=0))=false:=by rw [decide_eq_true hp];rfl
 rw [if_neg (by rw [hp];decide)]
 unfold isTestB
 cases eb:dollarB (firstS x) with
 | true =>
  rw [eb] at hc3
  rw [if_pos rfl]
  cases er:chkT n x d t with
  | ok t2=>rw [er] at hh;unfold ckO at hh;have hc4:=hh;obtain ⟨h,l⟩:=x;exact mut_of_sfun mixedz call105 rfl (p105_1 W h l d t t2 (parseE s) s ((parseP s).map AV.str) true (parseA s)) Fb17_z2
  | error e=>rw [er] at hh;unfold ckO at hh;have hc4:=hh;obtain ⟨h,l⟩:=x;exact mut_of_sfun mixedz call105 rfl (q105_0 W h l d t e (parseE s) s ((parseP s).map AV.str) true (parseA s)) Fb17_z2
 | false =>
  rw [eb] at hc3
  rw [if_neg (by decide)]
  obtain ⟨h,l⟩:=x
  by_cases h64:64<=t
  ·rw [if_pos h64]
   exact err_of W (mut_of_sfun mixedz call105 rfl (p105_2 W h l d t (parseE s) s ((parseP s).map AV.str) false (parseA s)) Fb17_z2)
  ·rw [if_neg h64]
   rw [<-hwt]
   exact mut_of_sfun mixedz call105 rfl (p105_3 W h l d t (parseE s) s ((parseP s).map AV.str) false (parseA s)) Fb17_z2
end
end Go.Ac

