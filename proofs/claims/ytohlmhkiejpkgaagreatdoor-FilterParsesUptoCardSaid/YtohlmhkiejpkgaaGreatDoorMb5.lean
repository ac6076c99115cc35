/- What is proved: contracts of functions of this translation, walked; their plain meaning. No condition beyond those that each theorem names. -/
import Derived.Test.YtohlmhkiejpkgaaGreatDoorMb4
import Derived.Test.YtohlmhkiejpkgaaGreatDoorMb3
import Derived.Test.YtohlmhkiejpkgaaGreatDoorMa6
set_option linter.all false
namespace Go.Ac
open Go Go.Proofs
set_option maxRecDepth 10000
set_option maxHeartbeats 2000000
section
variable (W:World)
theorem take_flat {α:Type} {rs:List (List α)} {i:Nat} {r:List α} (h:rs[i]?=some r):(rs.take (i+1)).flatten=(rs.take i).flatten++r:=by rw [take_snoc h,List.flatten_append];simp
theorem flat_le {α:Type} (rs:List (List α)) (i:Nat):(rs.take i).flatten.length<=rs.flatten.length:=by
 have e:rs.flatten=(rs.take i).flatten++(rs.drop i).flatten:=by rw [<-List.flatten_append,List.take_append_drop]
 rw [e,List.length_append];omega
theorem cloL_flat2:∀ {rs:List (List AV)},(∀ r ∈ rs,cloL r=true)->cloL rs.flatten=true
 | [],_=>rfl
 | r::rs,h=>by rw [List.flatten_cons,cloL_app,h r (by simp),cloL_flat2 (rs:=rs) fun x hx=>h x (by simp [hx])];rfl
theorem loopQ73 (ns:List AV) (rs:List (List AV)) (hlen:ns.length=rs.length) (hn:ns.length<=2 ^ 30) (hcr:∀ r ∈ rs,cloL r=true) (hb:rs.flatten.length<=2 ^ 31)
 (H:∀ (i:Nat) nd r,ns[i]?=some nd->rs[i]?=some r->MutC Tryz.prog W 73 [nd] [] (.ret (.sl 7 r []) [])/\((∃ s Q,nd=groupA s Q)\/∃ s P T,nd=clauseA s P T)):∀ (j i:Nat),ns.length - i=j->i<=ns.length →
 LoopC Tryz.prog W [] (nslots Tryz.prog 73) (loopOf Tryz.prog 73 0) (Q73 ns (rs.take i).flatten i) (.exit 1) (E73 rs.flatten):=by
 intro j
 induction j with
 | zero =>
  intro i hk hle
  have e:i=ns.length:=by omega
  subst e
  rw [hlen,List.take_length,<-hlen]
  have hcl:=cloL_flat2 hcr
  exact loop_last (by simp) (body_of_sbodyK mixedz (bqg_1 W ns rs.flatten ns.length) Fn1_z2 [] [] Fn1_z1)
 | succ j ih =>
  intro i hk hle
  obtain ⟨nd,hnd⟩:=getOf (l:=ns) (i:=i) (by omega)
  obtain ⟨r,hr⟩:=getOf (l:=rs) (i:=i) (by omega)
  have hws:IntKind.i64.wrap ((i:Int)+1)=((i+1:Nat):Int):=wrap_succ (by omega)
  have hnx:=ih (i+1) (by omega) (by omega)
  have hbl:=flat_le rs (i+1)
  rw [take_flat hr] at hnx hbl
  have hcl:cloL (rs.take i).flatten=true:=cloL_flat2 fun x hx=>hcr x (List.mem_of_mem_take hx)
  have hcx:=hcr r (List.mem_of_getElem? hr)
  obtain ⟨hc,hform⟩:=H i nd r hnd hr
  have hget:ns[((i:Int)).toNat]?=some nd:=by rw [Int.toNat_natCast];exact hnd
  generalize (rs.take i).flatten=acc at hnx hbl hcl ⊢
  have hcl2:=cloL_app2 _ _ hcl hcx
  have hgl:acc.length+r.length=(acc++r).length:=by rw [List.length_append]
  have hset:List.take acc.length acc++r=acc++r:=by rw [List.take_length]
  have hb2:acc.length+r.length<=2 ^ 31:=by rw [List.length_append] at hbl;omega
  rcases hform with ⟨s,Q,rfl⟩|⟨s,P,T,rfl⟩
  ·exact loop_next (body_of_sbodyK mixedz (bqg_0 W ns acc r i Q s) Fn1_z2 [(100001,100002)] [] Fn1_z1) hnx
  ·exact loop_next (body_of_sbodyK mixedz (bqc_0 W ns acc r i P T s) Fn1_z2 [(100001,100002)] [] Fn1_z1) hnx
theorem loopG73 (ns:List AV) (rs:List (List AV)) (hlen:ns.length=rs.length) (hn:ns.length<=2 ^ 30) (hcr:∀ r ∈ rs,cloL r=true) (hb:rs.flatten.length<=2 ^ 31)
 (H:∀ (i:Nat) nd r,ns[i]?=some nd->rs[i]?=some r->MutC Tryz.prog W 73 [nd] [] (.ret (.sl 7 r []) [])/\∃ Q,nd=.ifc 105 (.agg [.sl 1 Q []])):∀ (j i:Nat),ns.length - i=j->i<=ns.length →
 LoopC Tryz.prog W [] (nslots Tryz.prog 73) (loopOf Tryz.prog 73 1) (G73 ns (rs.take i).flatten i) (.exit 3) (E73 rs.flatten):=by
 intro j
 induction j with
 | zero =>
  intro i hk hle
  have e:i=ns.length:=by omega
  subst e
  rw [hlen,List.take_length,<-hlen]
  have hcl:=cloL_flat2 hcr
  exact loop_last (by simp) (body_of_sbodyK mixedz (bg_1 W ns rs.flatten ns.length) Fn1_z2 [] [] Fn1_z1)
 | succ j ih =>
  intro i hk hle
  obtain ⟨nd,hnd⟩:=getOf (l:=ns) (i:=i) (by omega)
  obtain ⟨r,hr⟩:=getOf (l:=rs) (i:=i) (by omega)
  have hws:IntKind.i64.wrap ((i:Int)+1)=((i+1:Nat):Int):=wrap_succ (by omega)
  have hnx:=ih (i+1) (by omega) (by omega)
  have hbl:=flat_le rs (i+1)
  rw [take_flat hr] at hnx hbl
  have hcl:cloL (rs.take i).flatten=true:=cloL_flat2 fun x hx=>hcr x (List.mem_of_mem_take hx)
  have hcx:=hcr r (List.mem_of_getElem? hr)
  obtain ⟨hc,Q,rfl⟩:=H i nd r hnd hr
  have hget:ns[((i:Int)).toNat]?=some (.ifc 105 (.agg [.sl 1 Q []])):=by rw [Int.toNat_natCast];exact hnd
  generalize (rs.take i).flatten=acc at hnx hbl hcl ⊢
  have hcl2:=cloL_app2 _ _ hcl hcx
  have hgl:acc.length+r.length=(acc++r).length:=by rw [List.length_append]
  have hset:List.take acc.length acc++r=acc++r:=by rw [List.take_length]
  have hb2:acc.length+r.length<=2 ^ 31:=by rw [List.length_append] at hbl;omega
  exact loop_next (body_of_sbodyK mixedz (bg_0 W ns acc r i Q) Fn1_z2 [(100001,100002)] [] Fn1_z1) hnx
theorem query73M (ns:List AV) (rs:List (List AV)) (hlen:ns.length=rs.length) (hn:ns.length<=2 ^ 30) (hcr:∀ r ∈ rs,cloL r=true) (hb:rs.flatten.length<=2 ^ 31)
 (H:∀ (i:Nat) nd r,ns[i]?=some nd->rs[i]?=some r->MutC Tryz.prog W 73 [nd] [] (.ret (.sl 7 r []) [])/\((∃ s Q,nd=groupA s Q)\/∃ s P T,nd=clauseA s P T)):MutC Tryz.prog W 73 [.ifc 105 (.agg [.sl 1 ns []])] [] (.ret (.gs 100001 0 rs.flatten.length) [(100001,.arr 58 7 rs.flatten .own)]):=by
 have hlp:=loopQ73 W ns rs hlen hn hcr hb H _ 0 rfl (Nat.zero_le _)
 rw [List.take_zero,List.flatten_nil] at hlp
 have hcl:=cloL_flat2 hcr
 exact mut_of_sfun mixedz call73 rfl (pq_0 W ns rs.flatten) Fn1_z2
theorem and73 (ns:List AV) (rs:List (List AV)) (hlen:ns.length=rs.length) (hn:ns.length<=2 ^ 30) (hcr:∀ r ∈ rs,cloL r=true) (hb:rs.flatten.length<=2 ^ 31)
 (H:∀ (i:Nat) nd r,ns[i]?=some nd->rs[i]?=some r->MutC Tryz.prog W 73 [nd] [] (.ret (.sl 7 r []) [])/\∃ Q,nd=.ifc 105 (.agg [.sl 1 Q []])):Pure Tryz.prog W 73 [groupA sAnd ns] (.sl 7 rs.flatten []):=by
 have hlp:=loopG73 W ns rs hlen hn hcr hb H _ 0 rfl (Nat.zero_le _)
 rw [List.take_zero,List.flatten_nil] at hlp
 have hcl:=cloL_flat2 hcr
 exact pure_frz1 (mut_of_sfun mixedz call73 rfl (pg_0 W ns rs.flatten) Fn1_z2) rfl hcl
theorem nogroup73 (s:List UInt8) (ns:List AV) (h:s ≠ sAnd):Pure Tryz.prog W 73 [groupA s ns] (.sl 7 [] []):=by
 have hd:(!decide (s=sAnd))=true:=by rw [decide_eq_false h];rfl
 exact pure_leR (.nil 7) (pure_of_mut rfl (mut_of_sfun mixedz call73 rfl (pgn_0 W s ns) ⟨hd,trivial⟩))
theorem needs73M:∀ (n:Nat) (q:JV),cntV q<=2 ^ 30->MutC Tryz.prog W 73 [.ifc 105 (.agg [.sl 1 (qN n q) []])] [] (.ret (.gs 100001 0 ((needF n q).map encN).length) [(100001,.arr 58 7 ((needF n q).map encN) .own)])
 | 0,q,_=>by
  rw [qN,needF]
  exact query73M W [] [] rfl (by simp) (by simp) (by simp) (fun i nd r h _=>by simp at h)
 | n+1,q,hc=>by
  have hml:=q.mems_len
  have hmn:=q.mem_items
  have hcl:=cntV_len q
  have e:(needF (n+1) q).map encN=(q.mems.map fun p=>(needG n p).map encN).flatten:=by
   rw [needF_eq,List.flatMap,List.map_flatten,List.map_map];rfl
  have hnl:=need_len (n+1) q
  rw [e]
  rw [show qN (n+1) q=q.mems.map (nodeA n) by rw [qN];rfl]
  refine query73M W _ _ (by simp) (by simp only [List.length_map];omega) (fun r hr=>?_) (by rw [<-e,List.length_map];omega) (fun i nd r h1 h2=>?_)
  ·obtain ⟨p,_,rfl⟩:=List.mem_map.1 hr
   exact cloL_encN _
  ·rw [List.getElem?_map] at h1 h2
   cases hp:q.mems[i]? with
   | none=>rw [hp] at h1;cases h1
   | some p =>
    rw [hp] at h1 h2
    simp only [Option.map_some,Option.some.injEq] at h1 h2
    subst h1 h2
    have hpm:=mems_item (List.mem_of_getElem? hp)
    obtain ⟨k,hk⟩:=List.getElem?_of_mem hpm
    have hcp:=cntV_item hk
    have hcl2:=cntV_len p.2
    unfold nodeA needG
    cases hj:joinsB p.1 with
    | true =>
     simp only [if_true]
     refine ⟨?_,.inl ⟨_,_,rfl⟩⟩
     by_cases ha:p.1=sAnd
     ·rw [if_pos ha,ha]
      have e2:(p.2.items.flatMap (needF n)).map encN=(p.2.items.map fun y=>(needF n y).map encN).flatten:=by
       rw [List.flatMap,List.map_flatten,List.map_map];rfl
      have hfl:=flat_cnt (needF n) (need_len n) p.2.items
      have hci:=cntV_eq p.2
      rw [e2]
      refine mut_of_pure (by rfl) (and73 W _ _ (by simp [nodesQ]) (by simp only [nodesQ,List.length_map];omega) (fun r hr=>?_) (by rw [<-e2,List.length_map];omega) (fun i nd r h1 h2=>?_))
      ·obtain ⟨y,_,rfl⟩:=List.mem_map.1 hr
       exact cloL_encN _
      ·unfold nodesQ at h1
       rw [List.getElem?_map] at h1 h2
       cases hy:p.2.items[i]? with
       | none=>rw [hy] at h1;cases h1
       | some y =>
        rw [hy] at h1 h2
        simp only [Option.map_some,Option.some.injEq] at h1 h2
        subst h1 h2
        have hcy:=cntV_item hy
        exact ⟨mut_of_pure (by rfl) (pure_frz1 (needs73M n y (by omega)) rfl (cloL_encN _)),_,rfl⟩
     ·rw [if_neg ha]
      exact mut_of_pure (by rfl) (nogroup73 W p.1 _ ha)
    | false =>
     simp only [Bool.false_eq_true,if_false]
     refine ⟨?_,.inr ⟨_,_,_,rfl⟩⟩
     have hcm:=clauseM_len n p.2
     cases ht:isTestB p.2 with
     | true =>
      simp only [if_true]
      cases n with
      | zero =>
       rw [tT]
       unfold clauseM
       rw [ht]
       simp only [if_true]
       exact mut_of_pure (by rfl) (clause73 W p.1 _ (fun p=>asksA [] [] p.1 p.2) (fun p=>asks_fn _ _ _ _) [] (by simp))
      | succ n =>
       rw [tT]
       unfold clauseM at hcm ⊢
       rw [ht] at hcm ⊢
       simp only [if_true] at hcm ⊢
       exact mut_of_pure (by rfl) (clause73 W p.1 _ _ (fun p=>asks_fn _ _ _ _) p.2.mems (by omega))
     | false =>
      simp only [Bool.false_eq_true,if_false]
      unfold clauseM
      rw [ht]
      simp only [Bool.false_eq_true,if_false]
      exact mut_of_pure (by rfl) (clause73 W p.1 _ _ (fun p=>asks_fn _ _ _ _) [(sEq,p.2)] (by simp))
theorem needs73 (n:Nat) (q:JV) (h:cntV q<=2 ^ 30):Pure Tryz.prog W 73 [.ifc 105 (.agg [.sl 1 (qN n q) []])] (.sl 7 ((needF n q).map encN) []):=pure_frz1 (needs73M W n q h) rfl (cloL_encN _)
end
end Go.Ac

namespace Go.Ac
open Go Go.Proofs
set_option maxRecDepth 10000
set_option maxHeartbeats 2000000
structure NdSz (B:Nat) (x:Nd):Prop where
 s:x.1.length<=2 ^ 30
 c:cntV x.2.2<=B
 n:nmV x.2.2
theorem needT_sz {B:Nat} {s:List UInt8} {ms:List (List UInt8×JV)} (hs:s.length<=2 ^ 30) (h:∀ p ∈ ms,cntV p.2<=B/\nmV p.2):∀ x ∈ needT s ms,NdSz B x:=by
 intro x hx
 unfold needT at hx
 obtain ⟨p,hp,hx⟩:=List.mem_flatMap.1 hx
 split at hx
 ·rw [List.mem_singleton] at hx
  subst hx
  exact ⟨hs,(h p hp).1,(h p hp).2⟩
 ·cases hx
theorem need_sz {B:Nat}:∀ (n:Nat) (q:JV),cntV q<=B->nmV q->∀ x ∈ needF n q,NdSz B x
 | 0,q,hc,hn,x,hx=>by simp [needF] at hx
 | n+1,q,hc,hn,x,hx=>by
  rw [needF_eq] at hx
  obtain ⟨p,hp,hx⟩:=List.mem_flatMap.1 hx
  have hpm:=mems_mem hp
  obtain ⟨k,hk⟩:=List.getElem?_of_mem hpm.2
  have hcp:=cntV_item hk
  have hnp:=nmV_mem hn hpm.2
  unfold needG at hx
  split at hx
  ·split at hx
   ·obtain ⟨y,hy1,hy2⟩:=List.mem_flatMap.1 hx
    obtain ⟨k2,hk2⟩:=List.getElem?_of_mem hy1
    have hcy:=cntV_item hk2
    exact need_sz n y (by omega) (nmV_mem hnp hy1) x hy2
   ·cases hx
  ·refine needT_sz (nmV_name hn hpm.1) (fun m hm=>?_) x hx
   unfold clauseM at hm
   split at hm
   ·cases n with
    | zero=>cases hm
    | succ n =>
     have hmm:=mems_mem hm
     obtain ⟨k2,hk2⟩:=List.getElem?_of_mem hmm.2
     have hcm:=cntV_item hk2
     exact ⟨by omega,nmV_mem hnp hmm.2⟩
   ·rw [List.mem_singleton] at hm
    subst hm
    exact ⟨by simp only;omega,hnp⟩
section
variable (W:World)
theorem needs31 (n:Nat) (q:JV) (t:Int) (hc:cntV q<=2 ^ 30):Pure Tryz.prog W 31 [filA n q t] (.sl 7 ((needF n q).map encN) []) :=
 pure_of_mut rfl (mut_of_sfun mixedz call31 rfl (p31_0 W ((needF n q).map encN) (qN n q) t) ⟨mut_of_pure (by rfl) (needs73 W n q hc),trivial⟩)
end
end Go.Ac

namespace Go.Ac
open Go Go.Proofs
set_option maxRecDepth 10000
set_option maxHeartbeats 1000000
theorem Fr2_z1 {kp f ph σ σ'} (h:MatchK kp f ph σ σ':=by exact ⟨by rfl,(by simp only [S18,tOK,List.map_cons,List.map_nil,and_true]<;>exact zt),(by simp only [S18,hOK,List.map_cons,List.map_nil,and_true]<;>exact zh),(by simp only [S18,liveT,List.map_cons,List.map_nil,and_true]<;>exact zv),(by simp only [S18,liveH,List.map_cons,List.map_nil,and_true]<;>exact zv)⟩):MatchK kp f ph σ σ':=h
theorem Fr2_z3 {cs} (h:Holds cs:=by simp only [Holds,and_true]<;>and_intros<;>first|exact zd|(rw [Int.toNat_natCast];exact encVs_get hx;done)|(exact mut_of_pure (by rfl) hih;done)|(simp only [encVs_len,List.length_take,true_or,true_and];omega;done)|(simp only [List.length_cons,List.length_nil];omega;done)|(simp only [decide_eq_true_eq,decide_eq_false_iff_not,Bool.not_eq_true',Bool.not_eq_false',encVs_len,List.length_map];omega)):Holds cs:=h
def B18 (h:JH) (i:Nat):AV:=.agg [.val (.int .i64 h.kind),.val (.int .i64 h.int),.str h.3,.gs 100003 0 (0+(List.map AV.str h.names).length),.gs 100005 0 i]
def S18 (h:JH) (l:List JV) (i:Nat):AS:=⟨[(1,.gp 100000 0),(2,.gp 100001 0),(3,.gp 100004 0),(4,iA i)],
 [(100000,.box (encV (.mk h l)) .own),(100001,.box (.agg [.val (.int .i64 0),.val (.int .i64 0),.str [],.val (.slice none 0 0),.val (.slice none 0 0)]) .own),(100003,.arr 9 1 (h.names.map AV.str) .own),(100004,.box (B18 h i) .own),(100005,.arr 25 5 (encVs (l.take i)) .own)]⟩
theorem b18_0 (W:World) (h:JH) (l:List JV) (i:Nat) (h1:JH) (l1:List JV):sQ W {tl:=[18],lp:=true,fin:=5} 18 0 [] [1,2,3,4] (S18 h l i) [bt,aE 1,oS (eV h1 l1),ee,cR (eV h1 l1) [],aE 1,.lg,.lg,ee]=.ok ((.normal,{t:=[(1,.gp 100000 0),(2,.gp 100001 0),(3,.gp 100004 0),(4,.val (Value.int IntKind.i64 (IntKind.i64.wrap ((i:Int)+1))))],h:=[(100000,gB (eV h l)),(100001,gB (.agg [.val (Value.int IntKind.i64 0),.val (Value.int IntKind.i64 0),.str [],.val (Value.slice none 0 0),.val (Value.slice none 0 0)])),(100003,.arr 9 1 (List.map AV.str h.names) .own),(100004,gB (.agg [.val (Value.int IntKind.i64 h.kind),.val (Value.int IntKind.i64 h.int),.str h.3,.gs 100003 0 (0+(List.map AV.str h.names).length),.gs 100007 0 (i+[AV.agg [.val (Value.int IntKind.i64 h1.kind),.val (Value.int IntKind.i64 h1.int),.str h1.3,sL 1 (List.map AV.str h1.names),sL 5 (encVs l1)]].length)])),(100005,.dead),(100006,.arr 25 5 [.agg [.val (Value.int IntKind.i64 h1.kind),.val (Value.int IntKind.i64 h1.int),.str h1.3,sL 1 (List.map AV.str h1.names),sL 5 (encVs l1)]] .own),(100007,.arr 25 5 (List.take i (encVs (List.take i l))++[AV.agg [.val (Value.int IntKind.i64 h1.kind),.val (Value.int IntKind.i64 h1.int),.str h1.3,sL 1 (List.map AV.str h1.names),sL 5 (encVs l1)]]) .own)]}),[ee],[(i+[AV.agg [.val (Value.int IntKind.i64 h1.kind),.val (Value.int IntKind.i64 h1.int),.str h1.3,sL 1 (List.map AV.str h1.names),sL 5 (encVs l1)]].length) * 80<=140737488355328,(St.own=St.own\/St.own=St.shr/\i=(encVs (List.take i l)).length)/\i<=(encVs (List.take i l)).length,MZ W 18 [.agg [.val (Value.int IntKind.i64 h1.kind),.val (Value.int IntKind.i64 h1.int),.str h1.3,sL 1 (List.map AV.str h1.names),sL 5 (encVs l1)]] [] (.ret (eV h1 l1) []),(encVs l)[(i:Int).toNat]?=some (eV h1 l1),decide ((i:Int)<(↑(encVs l).length:Int))=true]):=kr
theorem e18_1 (W:World) (h:JH) (l:List JV) (i:Nat):sbodyM Tryz.prog W {tl:=[18],lp:=true,fin:=5} 18 0 [] (S18 h l i) [bf,ee]=.ok ((.exit 0,{t:=[(1,.gp 100000 0),(2,.gp 100001 0),(3,.gp 100004 0),(4,iA (i:Int)),(16,.val (Value.int IntKind.i64 (i:Int))),(17,.gp 100000 4),(18,sL 5 (encVs l)),(19,.val (Value.int IntKind.i64 (↑(encVs l).length:Int))),(20,.val (Value.bool (decide ((i:Int)<(↑(encVs l).length:Int)))))],h:=[(100000,gB (eV h l)),(100001,gB (.agg [.val (Value.int IntKind.i64 0),.val (Value.int IntKind.i64 0),.str [],.val (Value.slice none 0 0),.val (Value.slice none 0 0)])),(100003,.arr 9 1 (List.map AV.str h.names) .own),(100004,gB (.agg [.val (Value.int IntKind.i64 h.kind),.val (Value.int IntKind.i64 h.int),.str h.3,.gs 100003 0 (0+(List.map AV.str h.names).length),.gs 100005 0 i])),(100005,.arr 25 5 (encVs (List.take i l)) .own)]}),[ee],[decide ((i:Int)<(↑(encVs l).length:Int))=false]):=kr
theorem p18_0 (W:World) (h:JH) (l:List JV) (i:Nat):sfun Tryz.prog W {tl:=[18],lp:=true,fin:=5} 1000 5 18 [eV h l] [] 100000 [aE 2,.lg,ee,.loopM [] [(100005,5)] (S18 h l 0) (.exit 0) (S18 h l i),ee,.fin [] [] (B18 h i) [(100003,.arr 9 1 (List.map AV.str h.names) .own),(100005,.arr 25 5 (encVs (List.take i l)) .own)],ee] []=.ok (.ret (.agg [.val (Value.int IntKind.i64 h.kind),.val (Value.int IntKind.i64 h.int),.str h.3,.gs 100003 0 (0+(List.map AV.str h.names).length),.gs 100005 0 i]) [(100003,.arr 9 1 (List.map AV.str h.names) .own),(100005,.arr 25 5 (encVs (List.take i l)) .own)],[ee],[MatchK [] [] [] {t:=[(0,.agg [.val (Value.int IntKind.i64 h.kind),.val (Value.int IntKind.i64 h.int),.str h.3,.gs 100003 0 (0+(List.map AV.str h.names).length),.gs 100005 0 i])],h:=[(100000,gB (eV h l)),(100001,gB (.agg [.val (Value.int IntKind.i64 h.kind),.val (Value.int IntKind.i64 h.int),.str h.3,.gs 100003 0 (0+(List.map AV.str h.names).length),.gs 100005 0 i])),(100003,.arr 9 1 (List.map AV.str h.names) .own),(100004,gB (.agg [.val (Value.int IntKind.i64 h.kind),.val (Value.int IntKind.i64 h.int),.str h.3,.gs 100003 0 (0+(List.map AV.str h.names).length),.gs 100005 0 i])),(100005,.arr 25 5 (encVs (List.take i l)) .own)]} {t:=[(0,.agg [.val (Value.int IntKind.i64 h.kind),.val (Value.int IntKind.i64 h.int),.str h.3,.gs 100003 0 (0+(List.map AV.str h.names).length),.gs 100005 0 i])],h:=[(100003,.arr 9 1 (List.map AV.str h.names) .own),(100005,.arr 25 5 (encVs (List.take i l)) .own)]},LZ W [] 18 0 (S18 h l 0) (.exit 0) (S18 h l i),MatchK [] [] [(100005,5)] {t:=[(1,.gp 100000 0),(2,.gp 100001 0),(3,.gp 100004 0),(4,.val (Value.int IntKind.i64 0))],h:=[(100000,gB (.agg [.val (Value.int IntKind.i64 h.kind),.val (Value.int IntKind.i64 h.int),.str h.3,sL 1 (List.map AV.str h.names),sL 5 (encVs l)])),(100001,gB (.agg [.val (Value.int IntKind.i64 0),.val (Value.int IntKind.i64 0),.str [],.val (Value.slice none 0 0),.val (Value.slice none 0 0)])),(100002,.dead),(100003,.arr 9 1 (List.map AV.str h.names) .own),(100004,gB (.agg [.val (Value.int IntKind.i64 h.kind),.val (Value.int IntKind.i64 h.int),.str h.3,.gs 100003 0 (0+(List.map AV.str h.names).length),.val (Value.slice none 0 0)]))]} (S18 h l 0),(0+(List.map AV.str h.names).length) * 16<=140737488355328]):=kr
theorem call18:callable Tryz.prog 18=true:=kr
theorem loop18 (W:World) (h:JH) (l:List JV) (hv:okVs l) (hl:l.length<=2 ^ 40)
 (ih:∀ (i:Nat) (x:JV),l[i]?=some x->Pure Tryz.prog W 18 [encV x] (encV x)) :
 ∀ i:Nat,i<=l.length->LoopC Tryz.prog W [] (nslots Tryz.prog 18) (loopOf Tryz.prog 18 0) (S18 h l i) (.exit 0) (S18 h l l.length):=by
 refine loopC_inv (fun i:Nat=>S18 h l i) (fun i=>i<=l.length) (fun i=>l.length - i) (by simp) ?_
 intro i h1
 by_cases hi:i<l.length
 ·obtain ⟨x,hx⟩:=getOf hi
  left
  have hih:=ih i x hx
  refine ⟨i+1,by omega,by omega,?_⟩
  cases x with
  | mk h1 l1 =>
   refine body_of_sbodyK mixedz (b18_0 W h l i h1 l1) Fr2_z3 [(100005,100007)] [] Fr2_z1
 ·right
  have hil:i=l.length:=by omega
  subst hil
  exact body_of_sbodyM mixedz (e18_1 W h l l.length) (by simp only [Holds,and_true];all_goals (and_intros<;>first|exact .inl trivial |exact trivial|assumption|(simp only [decide_eq_true_eq,decide_eq_false_iff_not,Bool.not_eq_true',Bool.not_eq_false',encVs_len,List.length_map];omega)|omega)) [] [] Fr2_z1
theorem copy18_step (W:World) (v:JV) (hv:okV v) (hc:cntV v<=2 ^ 30) (ih:∀ u,sizeV u<sizeV v->okV u->cntV u<=2 ^ 30->Pure Tryz.prog W 18 [encV u] (encV u)):Pure Tryz.prog W 18 [encV v] (encV v):=by
 cases v with
 | mk h l =>
  have hcl:=cntV_len (.mk h l)
  simp only [JV.names,JV.items,JV.hd] at hcl
  have hlp:=loop18 W h l hv.2.2 (by omega) (fun i x hx=>ih x (sizeV_item (v:=.mk h l) hx) (okVs_get hv.2.2 hx) (by have:=cntV_item (v:=.mk h l) hx;omega)) 0 (by omega)
  refine pure_frz [(100003,.arr 9 1 (h.names.map AV.str) .own),(100005,.arr 25 5 (encVs (l.take l.length)) .own)] (mut_of_sfun mixedz call18 rfl (p18_0 W h l l.length) ⟨Fr2_z1,hlp,Fr2_z1,(by simp only [Holds,and_true];all_goals (and_intros<;>first|exact .inl trivial|(simp only [List.length_map];omega;done) |exact trivial|assumption|(simp only [decide_eq_true_eq,decide_eq_false_iff_not,Bool.not_eq_true',Bool.not_eq_false',encVs_len,List.length_map];omega)|omega))⟩) ?_ ?_ (encV_clo _)
  ·intro p hp
   simp only [List.mem_cons,List.not_mem_nil,or_false] at hp
   rcases hp with rfl|rfl<;>exact ⟨by simp [hg],by simp only [Frzable];first|exact cloL_str _|exact encVs_clo _⟩
  ·have e1:=List.take_of_length_le (l:=h.names.map AV.str) (i:=h.names.length) (by simp)
   have e2:=List.take_of_length_le (l:=encVs l) (i:=l.length) (by simp [encVs_len])
   simp [B18,clA,clL,lk,List.take_length,encV,encVs_len,e1,e2]
theorem copy18 (W:World):∀ (n:Nat) (v:JV),sizeV v<n->okV v->cntV v<=2 ^ 30->Pure Tryz.prog W 18 [encV v] (encV v)
 | 0,_,h,_,_=>by omega
 | n+1,v,h,hv,hc=>copy18_step W v hv hc fun u hu ho hk=>copy18 W n u (by omega) ho hk
end Go.Ac

namespace Go.Ac
open Go Go.Proofs
set_option maxRecDepth 10000
set_option maxHeartbeats 1000000
theorem Fr3_z1 {kp f ph σ σ'} (h:MatchK kp f ph σ σ':=by exact ⟨by rfl,(by simp only [S67,H67,R67,tOK,List.map_cons,List.map_nil,and_true]<;>exact zt),(by simp only [S67,H67,R67,hOK,List.map_cons,List.map_nil,and_true]<;>exact zh),(by simp only [S67,H67,R67,liveT,List.map_cons,List.map_nil,and_true]<;>exact zv),(by simp only [S67,H67,R67,liveH,List.map_cons,List.map_nil,and_true]<;>exact zv)⟩):MatchK kp f ph σ σ':=h
theorem Fr3_z3 {cs} (h:Holds cs:=by simp only [Holds,and_true]<;>and_intros<;>first|exact zd|(simp only [Bool.not_eq_true',decide_eq_false_iff_not,Bool.not_eq_false',decide_eq_true_eq,Bool.not_true,Bool.not_false];done)|(exact hn;done)|(exact hi;done)|(simp only [Bool.not_eq_true',decide_eq_false_iff_not,Bool.not_eq_false',decide_eq_true_eq,Bool.not_true,Bool.not_false];first|assumption|rfl|omega;done)|(rw [Int.toNat_natCast];first|exact strs_get hx|exact strs_get hy|exact encVs_get hx|exact encVs_get hy;done)|(exact mut_of_pure (by rfl) hih;done)|(simp only [Bool.not_eq_true',decide_eq_false_iff_not,Bool.not_eq_false',decide_eq_true_eq,Bool.not_true,Bool.not_false];simp only [encVs_len,List.length_map,Int.natCast_inj];first|assumption|omega;done)|(simp only [decide_eq_true_eq,decide_eq_false_iff_not,Bool.not_eq_true',Bool.not_eq_false',encVs_len,List.length_map];omega)):Holds cs:=h
theorem Fr3_z4 {cs} (h:Holds cs:=by simp only [Holds,and_true]<;>and_intros<;>first|exact zd|(simp only [Bool.not_eq_true',decide_eq_false_iff_not,Bool.not_eq_false',decide_eq_true_eq,Bool.not_true,Bool.not_false];done)|(exact hn;done)|(exact hi;done)|(simp only [Bool.not_eq_true',decide_eq_false_iff_not,Bool.not_eq_false',decide_eq_true_eq,Bool.not_true,Bool.not_false];first|assumption|rfl|omega;done)|(rw [Int.toNat_natCast];first|exact strs_get hx|exact strs_get hy|exact encVs_get hx|exact encVs_get hy;done)|(exact mut_of_pure (by rfl) hih;done)|(simp only [Bool.not_eq_true',decide_eq_false_iff_not,Bool.not_eq_false',decide_eq_true_eq,Bool.not_true,Bool.not_false];simp only [encVs_len,List.length_map,Int.natCast_inj];first|assumption|omega;done)|exact Fr3_z1|(simp only [decide_eq_true_eq,decide_eq_false_iff_not,Bool.not_eq_true',Bool.not_eq_false',encVs_len,List.length_map];omega)):Holds cs:=h
def H67 (h:JH) (l:List JV) (g:JH) (k:List JV):List (Nat×GE):=[(100000,.box (encV (.mk h l)) .own),(100001,.box (encV (.mk g k)) .own)]
def S67 (h:JH) (l:List JV) (g:JH) (k:List JV) (s i:Nat):AS:=⟨[(2,.gp 100000 0),(3,.gp 100001 0),(s,iA i)],H67 h l g k⟩
def R67:AS:=⟨[(4,bA false)],[]⟩
theorem n67_0 (W:World) (h:JH) (l:List JV) (g:JH) (k:List JV) (i:Nat) (x y:List UInt8):sbodyM Tryz.prog W {tl:=[67],lp:=true} 67 0 [] (S67 h l g k 5 i) [bt,aE 1,oS (.str x),aE 1,oS (.str y),bt,ee]=.ok ((.ret,{t:=[(2,.gp 100000 0),(3,.gp 100001 0),(4,.val (Value.bool false)),(5,iA (i:Int)),(44,.val (Value.int IntKind.i64 (i:Int))),(45,.gp 100000 3),(46,sL 1 (List.map AV.str h.names)),(47,.val (Value.int IntKind.i64 (↑(List.map AV.str h.names).length:Int))),(48,.val (Value.bool (decide ((i:Int)<(↑(List.map AV.str h.names).length:Int))))),(51,.gp 100000 3),(52,sL 1 (List.map AV.str h.names)),(53,.val (Value.int IntKind.i64 (i:Int))),(54,(AV.str x).ip 0),(55,.str x),(56,.gp 100001 3),(57,sL 1 (List.map AV.str g.names)),(58,.val (Value.int IntKind.i64 (i:Int))),(59,(AV.str y).ip 0),(60,.str y),(61,.val (Value.bool !decide (x=y)))],h:=[(100000,gB (eV h l)),(100001,gB (eV g k))]}),[ee],[(!decide (x=y))=true,(List.map AV.str g.names)[(i:Int).toNat]?=some (AV.str y),(List.map AV.str h.names)[(i:Int).toNat]?=some (AV.str x),decide ((i:Int)<(↑(List.map AV.str h.names).length:Int))=true]):=kr
theorem n67_1 (W:World) (h:JH) (l:List JV) (g:JH) (k:List JV) (i:Nat) (x y:List UInt8):sbodyM Tryz.prog W {tl:=[67],lp:=true} 67 0 [] (S67 h l g k 5 i) [bt,aE 1,oS (.str x),aE 1,oS (.str y),bf,ee]=.ok ((.normal,{t:=[(2,.gp 100000 0),(3,.gp 100001 0),(5,.val (Value.int IntKind.i64 (IntKind.i64.wrap ((i:Int)+1)))),(44,.val (Value.int IntKind.i64 (i:Int))),(45,.gp 100000 3),(46,sL 1 (List.map AV.str h.names)),(47,.val (Value.int IntKind.i64 (↑(List.map AV.str h.names).length:Int))),(48,.val (Value.bool (decide ((i:Int)<(↑(List.map AV.str h.names).length:Int))))),(49,.val (Value.int IntKind.i64 (i:Int))),(50,.val (Value.int IntKind.i64 (IntKind.i64.wrap ((i:Int)+1)))),(51,.gp 100000 3),(52,sL 1 (List.map AV.str h.names)),(53,.val (Value.int IntKind.i64 (i:Int))),(54,(AV.str x).ip 0),(55,.str x),(56,.gp 100001 3),(57,sL 1 (List.map AV.str g.names)),(58,.val (Value.int IntKind.i64 (i:Int))),(59,(AV.str y).ip 0),(60,.str y),(61,.val (Value.bool !decide (x=y)))],h:=[(100000,gB (eV h l)),(100001,gB (eV g k))]}),[ee],[(!decide (x=y))=false,(List.map AV.str g.names)[(i:Int).toNat]?=some (AV.str y),(List.map AV.str h.names)[(i:Int).toNat]?=some (AV.str x),decide ((i:Int)<(↑(List.map AV.str h.names).length:Int))=true]):=kr
theorem n67_2 (W:World) (h:JH) (l:List JV) (g:JH) (k:List JV) (i:Nat):sbodyM Tryz.prog W {tl:=[67],lp:=true} 67 0 [] (S67 h l g k 5 i) [bf,ee]=.ok ((.exit 0,{t:=[(2,.gp 100000 0),(3,.gp 100001 0),(5,iA (i:Int)),(44,.val (Value.int IntKind.i64 (i:Int))),(45,.gp 100000 3),(46,sL 1 (List.map AV.str h.names)),(47,.val (Value.int IntKind.i64 (↑(List.map AV.str h.names).length:Int))),(48,.val (Value.bool (decide ((i:Int)<(↑(List.map AV.str h.names).length:Int)))))],h:=[(100000,gB (eV h l)),(100001,gB (eV g k))]}),[ee],[decide ((i:Int)<(↑(List.map AV.str h.names).length:Int))=false]):=kr
theorem i67_0 (W:World) (h:JH) (l:List JV) (g:JH) (k:List JV) (i:Nat) (h1:JH) (l1:List JV) (h2:JH) (l2:List JV) (b:Bool):sbodyM Tryz.prog W {tl:=[67],lp:=true} 67 1 [] (S67 h l g k 6 i) [bt,aE 1,oS (eV h1 l1),aE 1,oS (eV h2 l2),ee,cR (bA b) [],bt,ee]=.ok ((.ret,{t:=[(2,.gp 100000 0),(3,.gp 100001 0),(4,.val (Value.bool false)),(6,iA (i:Int)),(62,.val (Value.int IntKind.i64 (i:Int))),(63,.gp 100000 4),(64,sL 5 (encVs l)),(65,.val (Value.int IntKind.i64 (↑(encVs l).length:Int))),(66,.val (Value.bool (decide ((i:Int)<(↑(encVs l).length:Int))))),(69,.gp 100000 4),(70,sL 5 (encVs l)),(71,.val (Value.int IntKind.i64 (i:Int))),(72,(eV h1 l1).ip 0),(73,.agg [.val (Value.int IntKind.i64 h1.kind),.val (Value.int IntKind.i64 h1.int),.str h1.3,sL 1 (List.map AV.str h1.names),sL 5 (encVs l1)]),(74,.gp 100001 4),(75,sL 5 (encVs k)),(76,.val (Value.int IntKind.i64 (i:Int))),(77,(eV h2 l2).ip 0),(78,.agg [.val (Value.int IntKind.i64 h2.kind),.val (Value.int IntKind.i64 h2.int),.str h2.3,sL 1 (List.map AV.str h2.names),sL 5 (encVs l2)]),(79,.val (Value.bool b)),(80,.val (Value.bool !b))],h:=[(100000,gB (eV h l)),(100001,gB (eV g k))]}),[ee],[(!b)=true,MZ W 67 [.agg [.val (Value.int IntKind.i64 h1.kind),.val (Value.int IntKind.i64 h1.int),.str h1.3,sL 1 (List.map AV.str h1.names),sL 5 (encVs l1)],.agg [.val (Value.int IntKind.i64 h2.kind),.val (Value.int IntKind.i64 h2.int),.str h2.3,sL 1 (List.map AV.str h2.names),sL 5 (encVs l2)]] [] (.ret (bA b) []),(encVs k)[(i:Int).toNat]?=some (eV h2 l2),(encVs l)[(i:Int).toNat]?=some (eV h1 l1),decide ((i:Int)<(↑(encVs l).length:Int))=true]):=kr
theorem i67_1 (W:World) (h:JH) (l:List JV) (g:JH) (k:List JV) (i:Nat) (h1:JH) (l1:List JV) (h2:JH) (l2:List JV) (b:Bool):sbodyM Tryz.prog W {tl:=[67],lp:=true} 67 1 [] (S67 h l g k 6 i) [bt,aE 1,oS (eV h1 l1),aE 1,oS (eV h2 l2),ee,cR (bA b) [],bf,ee]=.ok ((.normal,{t:=[(2,.gp 100000 0),(3,.gp 100001 0),(6,.val (Value.int IntKind.i64 (IntKind.i64.wrap ((i:Int)+1)))),(62,.val (Value.int IntKind.i64 (i:Int))),(63,.gp 100000 4),(64,sL 5 (encVs l)),(65,.val (Value.int IntKind.i64 (↑(encVs l).length:Int))),(66,.val (Value.bool (decide ((i:Int)<(↑(encVs l).length:Int))))),(67,.val (Value.int IntKind.i64 (i:Int))),(68,.val (Value.int IntKind.i64 (IntKind.i64.wrap ((i:Int)+1)))),(69,.gp 100000 4),(70,sL 5 (encVs l)),(71,.val (Value.int IntKind.i64 (i:Int))),(72,(eV h1 l1).ip 0),(73,.agg [.val (Value.int IntKind.i64 h1.kind),.val (Value.int IntKind.i64 h1.int),.str h1.3,sL 1 (List.map AV.str h1.names),sL 5 (encVs l1)]),(74,.gp 100001 4),(75,sL 5 (encVs k)),(76,.val (Value.int IntKind.i64 (i:Int))),(77,(eV h2 l2).ip 0),(78,.agg [.val (Value.int IntKind.i64 h2.kind),.val (Value.int IntKind.i64 h2.int),.str h2.3,sL 1 (List.map AV.str h2.names),sL 5 (encVs l2)]),(79,.val (Value.bool b)),(80,.val (Value.bool !b))],h:=[(100000,gB (eV h l)),(100001,gB (eV g k))]}),[ee],[(!b)=false,MZ W 67 [.agg [.val (Value.int IntKind.i64 h1.kind),.val (Value.int IntKind.i64 h1.int),.str h1.3,sL 1 (List.map AV.str h1.names),sL 5 (encVs l1)],.agg [.val (Value.int IntKind.i64 h2.kind),.val (Value.int IntKind.i64 h2.int),.str h2.3,sL 1 (List.map AV.str h2.names),sL 5 (encVs l2)]] [] (.ret (bA b) []),(encVs k)[(i:Int).toNat]?=some (eV h2 l2),(encVs l)[(i:Int).toNat]?=some (eV h1 l1),decide ((i:Int)<(↑(encVs l).length:Int))=true]):=kr
theorem i67_2 (W:World) (h:JH) (l:List JV) (g:JH) (k:List JV) (i:Nat):sbodyM Tryz.prog W {tl:=[67],lp:=true} 67 1 [] (S67 h l g k 6 i) [bf,ee]=.ok ((.exit 2,{t:=[(2,.gp 100000 0),(3,.gp 100001 0),(6,iA (i:Int)),(62,.val (Value.int IntKind.i64 (i:Int))),(63,.gp 100000 4),(64,sL 5 (encVs l)),(65,.val (Value.int IntKind.i64 (↑(encVs l).length:Int))),(66,.val (Value.bool (decide ((i:Int)<(↑(encVs l).length:Int)))))],h:=[(100000,gB (eV h l)),(100001,gB (eV g k))]}),[ee],[decide ((i:Int)<(↑(encVs l).length:Int))=false]):=kr
theorem q67_0 (W:World) (h:JH) (l:List JV) (g:JH) (k:List JV):sfun Tryz.prog W {tl:=[67],lp:=true} 1000 5 67 [eV h l,eV g k] [] 100000 [bt,bt,bt,bt,bt,bt,ee] []=.ok (.ret (.val (Value.bool false)) [],[aE 9999977],d6 ((!decide (h.kind=g.kind))=true) []):=kr
theorem q67_1 (W:World) (h:JH) (l:List JV) (g:JH) (k:List JV):sfun Tryz.prog W {tl:=[67],lp:=true} 1000 5 67 [eV h l,eV g k] [] 100000 [bf,bf,bf,bf,bf,bf,bt,bt,bt,bt,bt,bt,ee] []=.ok (.ret (.val (Value.bool false)) [],[aE 9999983],d6 ((!decide (h.int=g.int))=true) (d6 ((!decide (h.kind=g.kind))=false) [])):=kr
theorem q67_2 (W:World) (h:JH) (l:List JV) (g:JH) (k:List JV):sfun Tryz.prog W {tl:=[67],lp:=true} 1000 5 67 [eV h l,eV g k] [] 100000 [bf,bf,bf,bf,bf,bf,bf,bf,bf,bf,bf,bf,bt,bt,bt,bt,bt,bt,bt,bt,ee] []=.ok (.ret (.val (Value.bool false)) [],[aE 9999991],d2 ((!decide (h.text=g.text))=true) (d6 ((!decide (h.text=g.text))=true) (d6 ((!decide (h.int=g.int))=false) (d6 ((!decide (h.kind=g.kind))=false) [])))):=kr
theorem q67_3 (W:World) (h:JH) (l:List JV) (g:JH) (k:List JV):sfun Tryz.prog W {tl:=[67],lp:=true} 1000 5 67 [eV h l,eV g k] [] 100000 [bf,bf,bf,bf,bf,bf,bf,bf,bf,bf,bf,bf,bf,bf,bf,bf,bf,bf,bf,bf,bt,bt,bt,bt,bt,bt,bt,bt,ee] []=.ok (.ret (.val (Value.bool false)) [],[aE 9999999],d2 ((!decide ((↑(List.map AV.str h.names).length:Int)=(↑(List.map AV.str g.names).length:Int)))=true) (d6 ((!decide ((↑(List.map AV.str h.names).length:Int)=(↑(List.map AV.str g.names).length:Int)))=true) (d2 ((!decide (h.text=g.text))=false) (d6 ((!decide (h.text=g.text))=false) (d6 ((!decide (h.int=g.int))=false) (d6 ((!decide (h.kind=g.kind))=false) [])))))):=kr
theorem q67_4 (W:World) (h:JH) (l:List JV) (g:JH) (k:List JV):sfun Tryz.prog W {tl:=[67],lp:=true} 1000 5 67 [eV h l,eV g k] [] 100000 [bf,bf,bf,bf,bf,bf,bf,bf,bf,bf,bf,bf,bf,bf,bf,bf,bf,bf,bf,bf,bf,bf,bf,bf,bf,bf,bf,bf,bt,ee] []=.ok (.ret (.val (Value.bool false)) [],[ee],((!decide ((↑(encVs l).length:Int)=(↑(encVs k).length:Int)))=true)::(d2 ((!decide ((↑(List.map AV.str h.names).length:Int)=(↑(List.map AV.str g.names).length:Int)))=false) (d6 ((!decide ((↑(List.map AV.str h.names).length:Int)=(↑(List.map AV.str g.names).length:Int)))=false) (d2 ((!decide (h.text=g.text))=false) (d6 ((!decide (h.text=g.text))=false) (d6 ((!decide (h.int=g.int))=false) (d6 ((!decide (h.kind=g.kind))=false) []))))))):=kr
theorem q67_5 (W:World) (h:JH) (l:List JV) (g:JH) (k:List JV) (i j:Nat):sfun Tryz.prog W {tl:=[67],lp:=true} 1000 5 67 [eV h l,eV g k] [] 100000 [bf,bf,bf,bf,bf,bf,bf,bf,bf,bf,bf,bf,bf,bf,bf,bf,bf,bf,bf,bf,bf,bf,bf,bf,bf,bf,bf,bf,bf,ee,.loopM [] [] (S67 h l g k 5 0) (.exit 0) (S67 h l g k 5 i),ee,.loopM [] [] (S67 h l g k 6 0) (.exit 2) (S67 h l g k 6 j),ee] []=.ok (.ret (.val (Value.bool true)) [],[ee],LZ W [] 67 1 (S67 h l g k 6 0) (.exit 2) (S67 h l g k 6 j)::MatchK [] [] [] {t:=[(2,.gp 100000 0),(3,.gp 100001 0),(6,.val (Value.int IntKind.i64 0))],h:=[(100000,gB (eV h l)),(100001,gB (eV g k))]} (S67 h l g k 6 0)::LZ W [] 67 0 (S67 h l g k 5 0) (.exit 0) (S67 h l g k 5 i)::MatchK [] [] [] {t:=[(2,.gp 100000 0),(3,.gp 100001 0),(5,.val (Value.int IntKind.i64 0))],h:=[(100000,gB (.agg [.val (Value.int IntKind.i64 h.kind),.val (Value.int IntKind.i64 h.int),.str h.3,sL 1 (List.map AV.str h.names),sL 5 (encVs l)])),(100001,gB (.agg [.val (Value.int IntKind.i64 g.kind),.val (Value.int IntKind.i64 g.int),.str g.3,sL 1 (List.map AV.str g.names),sL 5 (encVs k)]))]} (S67 h l g k 5 0)::((!decide ((↑(encVs l).length:Int)=(↑(encVs k).length:Int)))=false)::(d2 ((!decide ((↑(List.map AV.str h.names).length:Int)=(↑(List.map AV.str g.names).length:Int)))=false) (d6 ((!decide ((↑(List.map AV.str h.names).length:Int)=(↑(List.map AV.str g.names).length:Int)))=false) (d2 ((!decide (h.text=g.text))=false) (d6 ((!decide (h.text=g.text))=false) (d6 ((!decide (h.int=g.int))=false) (d6 ((!decide (h.kind=g.kind))=false) []))))))):=kr
theorem r67_5 (W:World) (h:JH) (l:List JV) (g:JH) (k:List JV):sfun Tryz.prog W {tl:=[67],lp:=true} 1000 5 67 [eV h l,eV g k] [] 100000 [bf,bf,bf,bf,bf,bf,bf,bf,bf,bf,bf,bf,bf,bf,bf,bf,bf,bf,bf,bf,bf,bf,bf,bf,bf,bf,bf,bf,bf,ee,.loopM [] [] (S67 h l g k 5 0) .ret R67,ee] []=.ok (.ret (.val (Value.bool false)) [],[ee],LZ W [] 67 0 (S67 h l g k 5 0) .ret R67::MatchK [] [] [] {t:=[(2,.gp 100000 0),(3,.gp 100001 0),(5,.val (Value.int IntKind.i64 0))],h:=[(100000,gB (.agg [.val (Value.int IntKind.i64 h.kind),.val (Value.int IntKind.i64 h.int),.str h.3,sL 1 (List.map AV.str h.names),sL 5 (encVs l)])),(100001,gB (.agg [.val (Value.int IntKind.i64 g.kind),.val (Value.int IntKind.i64 g.int),.str g.3,sL 1 (List.map AV.str g.names),sL 5 (encVs k)]))]} (S67 h l g k 5 0)::((!decide ((↑(encVs l).length:Int)=(↑(encVs k).length:Int)))=false)::(d2 ((!decide ((↑(List.map AV.str h.names).length:Int)=(↑(List.map AV.str g.names).length:Int)))=false) (d6 ((!decide ((↑(List.map AV.str h.names).length:Int)=(↑(List.map AV.str g.names).length:Int)))=false) (d2 ((!decide (h.text=g.text))=false) (d6 ((!decide (h.text=g.text))=false) (d6 ((!decide (h.int=g.int))=false) (d6 ((!decide (h.kind=g.kind))=false) []))))))):=kr
theorem s67_5 (W:World) (h:JH) (l:List JV) (g:JH) (k:List JV) (i:Nat):sfun Tryz.prog W {tl:=[67],lp:=true} 1000 5 67 [eV h l,eV g k] [] 100000 [bf,bf,bf,bf,bf,bf,bf,bf,bf,bf,bf,bf,bf,bf,bf,bf,bf,bf,bf,bf,bf,bf,bf,bf,bf,bf,bf,bf,bf,ee,.loopM [] [] (S67 h l g k 5 0) (.exit 0) (S67 h l g k 5 i),ee,.loopM [] [] (S67 h l g k 6 0) .ret R67,ee] []=.ok (.ret (.val (Value.bool false)) [],[ee],LZ W [] 67 1 (S67 h l g k 6 0) .ret R67::MatchK [] [] [] {t:=[(2,.gp 100000 0),(3,.gp 100001 0),(6,.val (Value.int IntKind.i64 0))],h:=[(100000,gB (eV h l)),(100001,gB (eV g k))]} (S67 h l g k 6 0)::LZ W [] 67 0 (S67 h l g k 5 0) (.exit 0) (S67 h l g k 5 i)::MatchK [] [] [] {t:=[(2,.gp 100000 0),(3,.gp 100001 0),(5,.val (Value.int IntKind.i64 0))],h:=[(100000,gB (.agg [.val (Value.int IntKind.i64 h.kind),.val (Value.int IntKind.i64 h.int),.str h.3,sL 1 (List.map AV.str h.names),sL 5 (encVs l)])),(100001,gB (.agg [.val (Value.int IntKind.i64 g.kind),.val (Value.int IntKind.i64 g.int),.str g.3,sL 1 (List.map AV.str g.names),sL 5 (encVs k)]))]} (S67 h l g k 5 0)::((!decide ((↑(encVs l).length:Int)=(↑(encVs k).length:Int)))=false)::(d2 ((!decide ((↑(List.map AV.str h.names).length:Int)=(↑(List.map AV.str g.names).length:Int)))=false) (d6 ((!decide ((↑(List.map AV.str h.names).length:Int)=(↑(List.map AV.str g.names).length:Int)))=false) (d2 ((!decide (h.text=g.text))=false) (d6 ((!decide (h.text=g.text))=false) (d6 ((!decide (h.int=g.int))=false) (d6 ((!decide (h.kind=g.kind))=false) []))))))):=kr
theorem call67:callable Tryz.prog 67=true:=kr
section
variable (W:World) (h:JH) (l:List JV) (g:JH) (k:List JV)
theorem namesExit (hl:h.names.length<=2 ^ 50) (e:h.names=g.names):∀ i:Nat,i<=h.names.length->LoopC Tryz.prog W [] (nslots Tryz.prog 67) (loopOf Tryz.prog 67 0) (S67 h l g k 5 i) (.exit 0) (S67 h l g k 5 h.names.length):=by
 refine loopC_inv (fun i:Nat=>S67 h l g k 5 i) (fun i=>i<=h.names.length) (fun i=>h.names.length - i) (by simp) ?_
 intro i h1
 by_cases hi:i<h.names.length
 ·obtain ⟨x,hx⟩:=getOf hi
  have hy:g.names[i]?=some x:=by rw [<-e];exact hx
  left
  exact ⟨i+1,by omega,by omega,body_of_sbodyM mixedz (n67_1 W h l g k i x x) Fr3_z3 [] [] Fr3_z1⟩
 ·right
  have hil:i=h.names.length:=by omega
  subst hil
  exact body_of_sbodyM mixedz (n67_2 W h l g k h.names.length) Fr3_z4 [] [] Fr3_z1
theorem namesRet (hl:h.names.length<=2 ^ 50) (hs:h.names.length=g.names.length) (e:h.names ≠ g.names):∀ i:Nat,(i<=h.names.length/\∀ q,q<i->h.names[q]?=g.names[q]?)->LoopC Tryz.prog W [] (nslots Tryz.prog 67) (loopOf Tryz.prog 67 0) (S67 h l g k 5 i) .ret R67:=by
 refine loopC_inv (fun i:Nat=>S67 h l g k 5 i) (fun i=>i<=h.names.length/\∀ q,q<i->h.names[q]?=g.names[q]?) (fun i=>h.names.length - i) (by simp) ?_
 rintro i ⟨h1,h2⟩
 by_cases hi:i<h.names.length
 ·obtain ⟨x,hx⟩:=getOf hi
  obtain ⟨y,hy⟩:=getOf (l:=g.names) (i:=i) (by omega)
  by_cases hxy:x=y
  ·left
   exact ⟨i+1,⟨by omega,upto_succ h2 (by rw [hx,hy,hxy])⟩,by omega,body_of_sbodyM mixedz (n67_1 W h l g k i x y) Fr3_z3 [] [] Fr3_z1⟩
  ·right
   exact body_of_sbodyM mixedz (n67_0 W h l g k i x y) Fr3_z3 [] [] Fr3_z1
 ·exact absurd (eq_of_get hs fun q hq=>h2 q (by omega)) e
theorem itemsExit (hl:l.length<=2 ^ 50) (e:l=k) (ih:∀ (i:Nat) (x y:JV),l[i]?=some x->k[i]?=some y->Pure Tryz.prog W 67 [encV x,encV y] (bA (eqV x y))):∀ i:Nat,i<=l.length->LoopC Tryz.prog W [] (nslots Tryz.prog 67) (loopOf Tryz.prog 67 1) (S67 h l g k 6 i) (.exit 2) (S67 h l g k 6 l.length):=by
 refine loopC_inv (fun i:Nat=>S67 h l g k 6 i) (fun i=>i<=l.length) (fun i=>l.length - i) (by simp) ?_
 intro i h1
 by_cases hi:i<l.length
 ·obtain ⟨x,hx⟩:=getOf hi
  have hy:k[i]?=some x:=by rw [<-e];exact hx
  left
  have hih:=ih i x x hx hy
  rw [eqV_true] at hih
  cases x with
  | mk h1 l1=>exact ⟨i+1,by omega,by omega,body_of_sbodyM mixedz (i67_1 W h l g k i h1 l1 h1 l1 true) Fr3_z3 [] [] Fr3_z1⟩
 ·right
  have hil:i=l.length:=by omega
  subst hil
  exact body_of_sbodyM mixedz (i67_2 W h l g k l.length) Fr3_z4 [] [] Fr3_z1
theorem itemsRet (hl:l.length<=2 ^ 50) (hs:l.length=k.length) (e:l ≠ k) (ih:∀ (i:Nat) (x y:JV),l[i]?=some x->k[i]?=some y->Pure Tryz.prog W 67 [encV x,encV y] (bA (eqV x y))):∀ i:Nat,(i<=l.length/\∀ q,q<i->l[q]?=k[q]?)->LoopC Tryz.prog W [] (nslots Tryz.prog 67) (loopOf Tryz.prog 67 1) (S67 h l g k 6 i) .ret R67:=by
 refine loopC_inv (fun i:Nat=>S67 h l g k 6 i) (fun i=>i<=l.length/\∀ q,q<i->l[q]?=k[q]?) (fun i=>l.length - i) (by simp) ?_
 rintro i ⟨h1,h2⟩
 by_cases hi:i<l.length
 ·obtain ⟨x,hx⟩:=getOf hi
  obtain ⟨y,hy⟩:=getOf (l:=k) (i:=i) (by omega)
  have hih:=ih i x y hx hy
  by_cases hxy:x=y
  ·left
   rw [hxy,eqV_true] at hih
   refine ⟨i+1,⟨by omega,upto_succ h2 (by rw [hx,hy,hxy])⟩,by omega,?_⟩
   subst hxy
   cases x with
   | mk h1 l1=>exact body_of_sbodyM mixedz (i67_1 W h l g k i h1 l1 h1 l1 true) Fr3_z3 [] [] Fr3_z1
  ·right
   rw [eqV_false hxy] at hih
   cases x with
   | mk h1 l1=>cases y with
    | mk g1 k1=>exact body_of_sbodyM mixedz (i67_0 W h l g k i h1 l1 g1 k1 false) Fr3_z3 [] [] Fr3_z1
 ·exact absurd (eq_of_get hs fun q hq=>h2 q (by omega)) e
theorem equal67_step (ha:h.names.length<=2 ^ 50/\l.length<=2 ^ 50) (ih:∀ (i:Nat) (x y:JV),l[i]?=some x->k[i]?=some y->Pure Tryz.prog W 67 [encV x,encV y] (bA (eqV x y))) :
 Pure Tryz.prog W 67 [encV (.mk h l),encV (.mk g k)] (bA (eqV (.mk h l) (.mk g k))):=by
 have no:∀ {b:Bool},(JV.mk h l ≠ .mk g k)->b=false->bA b=bA (eqV (.mk h l) (.mk g k)):=fun h1 h2=>by rw [eqV_false h1,h2]
 by_cases e1:h.kind=g.kind
 case neg=>rw [eqV_false (fun e=>e1 (by injection e with e _;rw [e]))];exact pure_of_mut rfl (mut_of_sfun mixedz call67 rfl (q67_0 W h l g k) Fr3_z4)
 by_cases e2:h.int=g.int
 case neg=>rw [eqV_false (fun e=>e2 (by injection e with e _;rw [e]))];exact pure_of_mut rfl (mut_of_sfun mixedz call67 rfl (q67_1 W h l g k) Fr3_z4)
 by_cases e3:h.text=g.text
 case neg=>rw [eqV_false (fun e=>e3 (by injection e with e _;rw [e]))];exact pure_of_mut rfl (mut_of_sfun mixedz call67 rfl (q67_2 W h l g k) Fr3_z4)
 by_cases e4:h.names.length=g.names.length
 case neg=>rw [eqV_false (fun e=>e4 (by injection e with e _;rw [e]))];exact pure_of_mut rfl (mut_of_sfun mixedz call67 rfl (q67_3 W h l g k) Fr3_z4)
 by_cases e5:l.length=k.length
 case neg=>rw [eqV_false (fun e=>e5 (by injection e with _ e;rw [e]))];exact pure_of_mut rfl (mut_of_sfun mixedz call67 rfl (q67_4 W h l g k) Fr3_z4)
 by_cases e6:h.names=g.names
 case neg =>
  have hlp:=namesRet W h l g k ha.1 e4 e6 0 ⟨by omega,by intro q hq;omega⟩
  rw [eqV_false (fun e=>e6 (by injection e with e _;rw [e]))];exact pure_of_mut rfl (mut_of_sfun mixedz call67 rfl (r67_5 W h l g k) Fr3_z4)
 have hn:=namesExit W h l g k ha.1 e6 0 (by omega)
 by_cases e7:l=k
 case neg =>
  have hlp:=itemsRet W h l g k ha.2 e5 e7 ih 0 ⟨by omega,by intro q hq;omega⟩
  rw [eqV_false (fun e=>e7 (by injection e))];exact pure_of_mut rfl (mut_of_sfun mixedz call67 rfl (s67_5 W h l g k h.names.length) Fr3_z4)
 have hi:=itemsExit W h l g k ha.2 e7 ih 0 (by omega)
 have e:JV.mk h l=.mk g k:=by rw [e7];congr 1;cases h;cases g;simp only at e1 e2 e3 e6;subst e1 e2 e3 e6;rfl
 rw [show eqV (.mk h l) (.mk g k)=true by rw [e];exact eqV_true _]
 exact pure_of_mut rfl (mut_of_sfun mixedz call67 rfl (q67_5 W h l g k h.names.length l.length) Fr3_z4)
end
theorem equal67 (W:World):∀ (n:Nat) (a b:JV),sizeV a<n->okV a->Pure Tryz.prog W 67 [encV a,encV b] (bA (eqV a b))
 | 0,_,_,h,_=>by omega
 | n+1,.mk h l,.mk g k,hs,hv=>equal67_step W h l g k ⟨hv.1,hv.2.1⟩ fun i x y hx _=>equal67 W n x y (by have:=sizeV_item (v:=.mk h l) hx;omega) (okVs_get hv.2.2 hx)
end Go.Ac

namespace Go.Ac
open Go Go.Proofs
set_option maxRecDepth 10000
set_option maxHeartbeats 1000000
theorem Fe5_z1 {kp f ph σ σ'} (h:MatchK kp f ph σ σ':=by exact ⟨by rfl,(by simp only [N34,N34e,L7a,L7e,L7b,L7f,tOK,List.map_cons,List.map_nil,and_true]<;>exact ztN),(by simp only [N34,N34e,L7a,L7e,L7b,L7f,hOK,List.map_cons,List.map_nil,and_true]<;>exact zhN),(by simp only [N34,N34e,L7a,L7e,L7b,L7f,liveT,List.map_cons,List.map_nil,and_true]<;>exact zvN),(by simp only [N34,N34e,L7a,L7e,L7b,L7f,liveH,List.map_cons,List.map_nil,and_true]<;>exact zvN)⟩):MatchK kp f ph σ σ':=h
def SPN:AV:=.agg [.str [115,112,111,105,108,116],iA 0,iA 0,iA 0,.str [],.val (.slice none 0 0),.val (.slice none 0 0)]
def GRN:AV:=.agg [.str [103,114,111,119,110],iA 0,iA 0,iA 0,.str [],.val (.slice none 0 0),.val (.slice none 0 0)]
def N34 (L M:List AV) (i:Nat):AS:=⟨[(0,.sl 7 L []),(1,.sl 7 M []),(5,iA i)],[]⟩
def N34e:AS:=⟨[],[]⟩
def L7a (N L els:List AV) (t:Int) (n i:Nat):AS:=⟨[(4,(.ip (.agg [.sl 1 N [],iA t]) 0)),(8,.gs 100010 0 n),(9,.sl 7 L []),(10,.sl 7 L []),(11,iA i)],[(100010,.arr 58 7 els .own)]⟩
def L7e (N L els:List AV) (t:Int) (n:Nat):AS:=⟨[(4,(.ip (.agg [.sl 1 N [],iA t]) 0)),(8,.gs 100010 0 n),(9,.sl 7 L []),(10,.sl 7 L [])],[(100010,.arr 58 7 els .own)]⟩
def L7b (N L els:List AV) (t:Int) (i:Nat):AS:=⟨[(4,(.ip (.agg [.sl 1 N [],iA t]) 0)),(8,.gs 100010 0 els.length),(9,.sl 7 L []),(10,.sl 7 L []),(12,iA i)],[(100010,.arr 58 7 els .own)]⟩
def L7f (N L:List AV) (t:Int):AS:=⟨[(4,(.ip (.agg [.sl 1 N [],iA t]) 0)),(9,.sl 7 L []),(10,.sl 7 L [])],[]⟩
theorem b34_2 (W:World) (L:List AV) (i:Nat) (s:List UInt8) (o:Int) (h2:JH) (l2:List JV):sbodyK Tryz.prog W {lp:=true,tl:=[67]} 34 0 [] [0,1,5] (N34 L L i) [Ans.br true,Ans.ev 1,Ans.opt (some (AV.agg [AV.str s,iA o,iA h2.kind,iA h2.int,AV.str h2.text,AV.sl 1 (List.map AV.str h2.names) [],AV.sl 5 (encVs l2) []])),Ans.ev 1,Ans.opt (some (AV.agg [AV.str s,iA o,iA h2.kind,iA h2.int,AV.str h2.text,AV.sl 1 (List.map AV.str h2.names) [],AV.sl 5 (encVs l2) []])),Ans.br false,Ans.br false,Ans.br false,Ans.ev 1,Ans.opt (some (AV.agg [AV.str s,iA o,iA h2.kind,iA h2.int,AV.str h2.text,AV.sl 1 (List.map AV.str h2.names) [],AV.sl 5 (encVs l2) []])),Ans.br false,Ans.br false,Ans.br false,Ans.br false,Ans.br false,Ans.ev 1,Ans.opt (some (AV.agg [AV.str s,iA o,iA h2.kind,iA h2.int,AV.str h2.text,AV.sl 1 (List.map AV.str h2.names) [],AV.sl 5 (encVs l2) []])),Ans.br false,Ans.br false,Ans.br false,Ans.br false,Ans.br false,Ans.br false,Ans.br false,Ans.ev 1,Ans.opt (some (AV.agg [AV.str s,iA o,iA h2.kind,iA h2.int,AV.str h2.text,AV.sl 1 (List.map AV.str h2.names) [],AV.sl 5 (encVs l2) []])),Ans.br false,Ans.br false,Ans.br false,Ans.br false,Ans.br false,Ans.ev 1,Ans.opt (some (AV.agg [AV.str s,iA o,iA h2.kind,iA h2.int,AV.str h2.text,AV.sl 1 (List.map AV.str h2.names) [],AV.sl 5 (encVs l2) []])),Ans.br false,Ans.br false,Ans.br false,Ans.ev 10000000,Ans.call (OutC.ret (bA true) []),Ans.br false,Ans.br false,Ans.ev 10000000]=.ok ((XEnd.normal,{t:=[(0,AV.sl 7 L []),(1,AV.sl 7 L []),(5,iA (IntKind.i64.wrap ((i:Int)+1)))],h:=[]}),[Ans.ev 9999999],[(!decide (o=o))=false,(!decide (o=o))=false,MutC Tryz.prog W 67 [AV.agg [iA h2.kind,iA h2.int,AV.str h2.3,AV.sl 1 (List.map AV.str h2.names) [],AV.sl 5 (encVs l2) []],AV.agg [iA h2.kind,iA h2.int,AV.str h2.3,AV.sl 1 (List.map AV.str h2.names) [],AV.sl 5 (encVs l2) []]] [] (OutC.ret (bA true) []),(!decide (o=o))=false,(!decide (o=o))=false,(!decide (o=o))=false,L[(i:Int).toNat]?=some (AV.agg [AV.str s,iA o,iA h2.kind,iA h2.int,AV.str h2.3,AV.sl 1 (List.map AV.str h2.names) [],AV.sl 5 (encVs l2) []]),(!decide (o=o))=false,(!decide (o=o))=false,(!decide (o=o))=false,(!decide (o=o))=false,(!decide (o=o))=false,L[(i:Int).toNat]?=some (AV.agg [AV.str s,iA o,iA h2.kind,iA h2.int,AV.str h2.3,AV.sl 1 (List.map AV.str h2.names) [],AV.sl 5 (encVs l2) []]),(!decide (o=o))=false,(!decide (o=o))=false,(!decide (o=o))=false,(!decide (s=s))=false,(!decide (s=s))=false,(!decide (s=s))=false,(!decide (s=s))=false,L[(i:Int).toNat]?=some (AV.agg [AV.str s,iA o,iA h2.kind,iA h2.int,AV.str h2.3,AV.sl 1 (List.map AV.str h2.names) [],AV.sl 5 (encVs l2) []]),(!decide (s=s))=false,(!decide (s=s))=false,(!decide (s=s))=false,(!decide (s=s))=false,(!decide (s=s))=false,L[(i:Int).toNat]?=some (AV.agg [AV.str s,iA o,iA h2.kind,iA h2.int,AV.str h2.3,AV.sl 1 (List.map AV.str h2.names) [],AV.sl 5 (encVs l2) []]),(!decide (s=s))=false,(!decide (s=s))=false,(!decide (s=s))=false,L[(i:Int).toNat]?=some (AV.agg [AV.str s,iA o,iA h2.kind,iA h2.int,AV.str h2.3,AV.sl 1 (List.map AV.str h2.names) [],AV.sl 5 (encVs l2) []]),L[(i:Int).toNat]?=some (AV.agg [AV.str s,iA o,iA h2.kind,iA h2.int,AV.str h2.3,AV.sl 1 (List.map AV.str h2.names) [],AV.sl 5 (encVs l2) []]),decide ((i:Int)<(L.length:Int))=true]):=kr
theorem b34_3 (W:World) (L:List AV) (i:Nat):sbodyK Tryz.prog W {lp:=true,tl:=[67]} 34 0 [] [0,1,5] (N34 L L i) [Ans.br false,Ans.ev 10000000]=.ok ((XEnd.exit 0,{t:=[(0,AV.sl 7 L []),(1,AV.sl 7 L []),(5,iA (i:Int))],h:=[]}),[Ans.ev 10000000],[decide ((i:Int)<(L.length:Int))=false]):=kr
theorem p34_1 (W:World) (L:List AV):sfun Tryz.prog W {lp:=true} 1000 9 34 [.sl 7 L [],.sl 7 L []] [] 100000 [Ans.br false,Ans.ev 10000000,Ans.loopM [] [] (N34 L L 0) (XEnd.exit 0) N34e,Ans.ev 10000000] []=.ok (OutC.ret (bA true) [],[Ans.ev 10000000],[LoopC Tryz.prog W [] (nslots Tryz.prog 34) (loopOf Tryz.prog 34 0) {t:=[(0,AV.sl 7 L []),(1,AV.sl 7 L []),(5,iA 0)],h:=[]} (XEnd.exit 0) {t:=[],h:=[]},MatchK [] [] [] {t:=[(0,AV.sl 7 L []),(1,AV.sl 7 L []),(5,iA 0)],h:=[]} {t:=[(0,AV.sl 7 L []),(1,AV.sl 7 L []),(5,iA 0)],h:=[]},(!decide ((L.length:Int)=(L.length:Int)))=false]):=kr
theorem o31_0 (W:World) (N L:List AV) (t:Int) (n:Nat):sfun Tryz.prog W {lp:=true,ol:=true,fin:=9,tl:=[73]} 1000 9 31 [(.ip (.agg [.sl 1 N [],iA t]) 0)] [] 100000 [Ans.ev 262143,Ans.lg,Ans.ev 10000000,Ans.call (OutC.ret (AV.gs 100001 0 n) [(100001,GE.arr 58 7 L St.own)]),Ans.ev 10000000,Ans.fin [] [] (AV.gs 100001 0 n) [(100001,GE.arr 58 7 L St.own)],Ans.ev 10000000] []=.ok (OutC.ret (AV.gs 100001 0 n) [(100001,GE.arr 58 7 L St.own)],[Ans.ev 10000000],[MatchK [] [] [] {t:=[(0,AV.gs 100001 0 n)],h:=[(100001,GE.arr 58 7 L St.own)]} {t:=[(0,AV.gs 100001 0 n)],h:=[(100001,GE.arr 58 7 L St.own)]},MutC Tryz.prog W 73 [AV.ifc 105 (AV.agg [AV.sl 1 N []])] [] (OutC.ret (AV.gs 100001 0 n) [(100001,GE.arr 58 7 L St.own)]),cloHs []]):=kr
theorem p7g_0 (W:World) (h:JH) (l:List JV):sfun Tryz.prog W {lp:=true,ol:=true,tl:=[14,15,16,17,18,31,32,33,34,67]} 1000 9 7 [encV (.mk h l)] [] 100000 [Ans.ev 262143,Ans.lg,Ans.ev 10000000,Ans.call (OutC.ret (bA true) [(100001,GE.arr 25 5 [encV (JV.mk h l)] St.own)]),Ans.ev 262143,Ans.lg,Ans.ev 10000000,Ans.call (OutC.ret (bA true) []),Ans.ev 10000000] []=.ok (OutC.ret (bA true) [],[Ans.ev 10000000],[MutC Tryz.prog W 15 [] [] (OutC.ret (bA true) []),cloHs [],MutC Tryz.prog W 14 [AV.gs 100001 0 1] [(100001,GE.arr 25 5 [encV (JV.mk h l)] St.own)] (OutC.ret (bA true) [(100001,GE.arr 25 5 [encV (JV.mk h l)] St.own)]),cloHs [(100001,GE.arr 25 5 [encV (JV.mk h l)] St.own)]]):=kr
theorem p7e_1 (W:World) (h:JH) (l:List JV) (e:Int):sfun Tryz.prog W {lp:=true,ol:=true,tl:=[14,15,16,17,18,31,32,33,34,67]} 1000 9 7 [encV (.mk h l)] [] 100000 [Ans.ev 262143,Ans.lg,Ans.ev 10000000,Ans.call (OutC.ret (bA false) [(100001,GE.arr 25 5 [encV (JV.mk h l)] St.own)]),Ans.ev 262143,Ans.lg,Ans.ev 10000000,Ans.call (OutC.ret (encV (JV.mk h l)) []),Ans.ev 262143,Ans.lg,Ans.ev 10000000,Ans.call (OutC.ret (AV.tup [AV.val (Value.pointer none),iA e]) []),Ans.ev 262143,Ans.lg,Ans.ev 10000000,Ans.call (OutC.ret (AV.tup [iA e,AV.top]) []),Ans.ev 1,Ans.br false,Ans.br false,Ans.br false,Ans.br false,Ans.br false,Ans.br false,Ans.br false,Ans.br false,Ans.br false,Ans.ev 262143,Ans.lg,Ans.ev 10000000,Ans.call (OutC.ret (bA true) []),Ans.br false,Ans.br false,Ans.ev 262143,Ans.lg,Ans.ev 10000000,Ans.call (OutC.ret (bA true) []),Ans.ev 10000000] []=.ok (OutC.ret (bA true) [],[Ans.ev 9999996],[MutC Tryz.prog W 15 [] [] (OutC.ret (bA true) []),cloHs [],(!true == !decide (e=0))=false,(!true == !decide (e=0))=false,MutC Tryz.prog W 67 [encV (JV.mk h l),encV (JV.mk h l)] [] (OutC.ret (bA true) []),cloHs [],(!true == !decide (e=0))=false,(!true == !decide (e=0))=false,(!true == !decide (e=0))=false,(!decide (e=e))=false,(!decide (e=e))=false,(!decide (e=e))=false,(!decide (e=e))=false,(!decide (e=e))=false,(!decide (e=e))=false,MutC Tryz.prog W 16 [encV (JV.mk h l)] [] (OutC.ret (AV.tup [iA e,AV.top]) []),cloHs [],MutC Tryz.prog W 17 [encV (JV.mk h l)] [] (OutC.ret (AV.tup [AV.val (Value.pointer none),iA e]) []),cloHs [],MutC Tryz.prog W 18 [encV (JV.mk h l)] [] (OutC.ret (encV (JV.mk h l)) []),cloHs [],MutC Tryz.prog W 14 [AV.gs 100001 0 1] [(100001,GE.arr 25 5 [encV (JV.mk h l)] St.own)] (OutC.ret (bA false) [(100001,GE.arr 25 5 [encV (JV.mk h l)] St.own)]),cloHs [(100001,GE.arr 25 5 [encV (JV.mk h l)] St.own)]]):=kr
theorem p7_0 (W:World) (h:JH) (l:List JV) (N L els:List AV) (t:Int) (n:Nat):sfun Tryz.prog W {lp:=true,ol:=true,tl:=[14,15,16,17,18,31,32,33,34,67]} 1000 9 7 [encV (.mk h l)] [] 100000 [Ans.ev 262143,Ans.lg,Ans.ev 10000000,Ans.call (OutC.ret (bA false) [(100001,GE.arr 25 5 [encV (JV.mk h l)] St.own)]),Ans.ev 262143,Ans.lg,Ans.ev 10000000,Ans.call (OutC.ret (encV (JV.mk h l)) []),Ans.ev 262143,Ans.lg,Ans.ev 10000000,Ans.call (OutC.ret (AV.tup [(AV.agg [AV.sl 1 N [],iA t]).ip 0,iA 0]) []),Ans.ev 262143,Ans.lg,Ans.ev 10000000,Ans.call (OutC.ret (AV.tup [iA 0,iA t]) []),Ans.ev 262143,Ans.lg,Ans.ev 10000000,Ans.call (OutC.ret (bA true) []),Ans.ev 262143,Ans.lg,Ans.ev 10000000,Ans.call (OutC.ret (bA true) []),Ans.ev 262143,Ans.lg,Ans.ev 10000000,Ans.call (OutC.ret (AV.gs 100010 0 n) [(100010,GE.arr 58 7 L St.own)]),Ans.ev 262143,Ans.lg,Ans.ev 10000000,Ans.call (OutC.ret (AV.sl 7 L []) []),Ans.ev 262143,Ans.lg,Ans.ev 10000000,Ans.call (OutC.ret (AV.sl 7 L []) []),Ans.ev 262143,Ans.lg,Ans.ev 10000000,Ans.call (OutC.ret (iA t) []),Ans.br false,Ans.br false,Ans.br false,Ans.ev 262143,Ans.lg,Ans.ev 10000000,Ans.call (OutC.ret (bA true) [(100010,GE.arr 58 7 L St.own)]),Ans.br false,Ans.br false,Ans.ev 262143,Ans.lg,Ans.ev 10000000,Ans.call (OutC.ret (bA true) []),Ans.ev 10000000,Ans.loopM [] [] (L7a N L L t n 0) (XEnd.exit 0) (L7e N L els t n),Ans.ev 10000000,Ans.loopM [] [] (L7b N L els t 0) (XEnd.exit 2) (L7f N L t),Ans.ev 262143,Ans.lg,Ans.ev 10000000,Ans.call (OutC.ret (bA true) []),Ans.ev 262143,Ans.lg,Ans.ev 10000000,Ans.call (OutC.ret (AV.sl 7 L []) []),Ans.ev 262143,Ans.lg,Ans.ev 10000000,Ans.call (OutC.ret (bA true) []),Ans.ev 10000000] []=.ok (OutC.ret (bA true) [],[Ans.ev 9999999],[MutC Tryz.prog W 34 [AV.sl 7 L [],AV.sl 7 L []] [] (OutC.ret (bA true) []),cloHs [],MutC Tryz.prog W 31 [(AV.agg [AV.sl 1 N [],iA t]).ip 0] [] (OutC.ret (AV.sl 7 L []) []),cloHs [],MutC Tryz.prog W 34 [AV.sl 7 L [],AV.sl 7 L []] [] (OutC.ret (bA true) []),cloHs [],LoopC Tryz.prog W [] (nslots Tryz.prog 7) (loopOf Tryz.prog 7 1) {t:=[(4,(AV.agg [AV.sl 1 N [],iA t]).ip 0),(8,AV.gs 100010 0 els.length),(9,AV.sl 7 L []),(10,AV.sl 7 L []),(12,iA 0)],h:=[(100010,GE.arr 58 7 els St.own)]} (XEnd.exit 2) {t:=[(4,(AV.agg [AV.sl 1 N [],iA t]).ip 0),(9,AV.sl 7 L []),(10,AV.sl 7 L [])],h:=[]},MatchK [] [] [] {t:=[(4,(AV.agg [AV.sl 1 N [],iA t]).ip 0),(8,AV.gs 100010 0 n),(9,AV.sl 7 L []),(10,AV.sl 7 L []),(12,iA 0)],h:=[(100010,GE.arr 58 7 els St.own)]} {t:=[(4,(AV.agg [AV.sl 1 N [],iA t]).ip 0),(8,AV.gs 100010 0 els.length),(9,AV.sl 7 L []),(10,AV.sl 7 L []),(12,iA 0)],h:=[(100010,GE.arr 58 7 els St.own)]},LoopC Tryz.prog W [] (nslots Tryz.prog 7) (loopOf Tryz.prog 7 0) {t:=[(4,(AV.agg [AV.sl 1 N [],iA t]).ip 0),(8,AV.gs 100010 0 n),(9,AV.sl 7 L []),(10,AV.sl 7 L []),(11,iA 0)],h:=[(100010,GE.arr 58 7 L St.own)]} (XEnd.exit 0) {t:=[(4,(AV.agg [AV.sl 1 N [],iA t]).ip 0),(8,AV.gs 100010 0 n),(9,AV.sl 7 L []),(10,AV.sl 7 L [])],h:=[(100010,GE.arr 58 7 els St.own)]},MatchK [] [] [] {t:=[(4,(AV.agg [AV.sl 1 N [],iA t]).ip 0),(8,AV.gs 100010 0 n),(9,AV.sl 7 L []),(10,AV.sl 7 L []),(11,iA 0)],h:=[(100000,GE.box (encV (JV.mk h l)) St.own),(100001,GE.arr 25 5 [encV (JV.mk h l)] St.own),(100002,GE.box (encV (JV.mk h l)) St.own),(100010,GE.arr 58 7 L St.own)]} {t:=[(4,(AV.agg [AV.sl 1 N [],iA t]).ip 0),(8,AV.gs 100010 0 n),(9,AV.sl 7 L []),(10,AV.sl 7 L []),(11,iA 0)],h:=[(100010,GE.arr 58 7 L St.own)]},MutC Tryz.prog W 34 [AV.sl 7 L [],AV.sl 7 L []] [] (OutC.ret (bA true) []),cloHs [],(!decide (t=t))=false,(!decide (t=t))=false,MutC Tryz.prog W 34 [AV.gs 100010 0 n,AV.sl 7 L []] [(100010,GE.arr 58 7 L St.own)] (OutC.ret (bA true) [(100010,GE.arr 58 7 L St.own)]),cloHs [(100010,GE.arr 58 7 L St.own)],(!decide (t=t))=false,(!decide (t=t))=false,(!decide (t=t))=false,MutC Tryz.prog W 33 [(AV.agg [AV.sl 1 N [],iA t]).ip 0] [] (OutC.ret (iA t) []),cloHs [],MutC Tryz.prog W 32 [encV (JV.mk h l)] [] (OutC.ret (AV.sl 7 L []) []),cloHs [],MutC Tryz.prog W 31 [(AV.agg [AV.sl 1 N [],iA t]).ip 0] [] (OutC.ret (AV.sl 7 L []) []),cloHs [],MutC Tryz.prog W 31 [(AV.agg [AV.sl 1 N [],iA t]).ip 0] [] (OutC.ret (AV.gs 100010 0 n) [(100010,GE.arr 58 7 L St.own)]),cloHs [],MutC Tryz.prog W 15 [] [] (OutC.ret (bA true) []),cloHs [],MutC Tryz.prog W 67 [encV (JV.mk h l),encV (JV.mk h l)] [] (OutC.ret (bA true) []),cloHs [],MutC Tryz.prog W 16 [encV (JV.mk h l)] [] (OutC.ret (AV.tup [iA 0,iA t]) []),cloHs [],MutC Tryz.prog W 17 [encV (JV.mk h l)] [] (OutC.ret (AV.tup [(AV.agg [AV.sl 1 N [],iA t]).ip 0,iA 0]) []),cloHs [],MutC Tryz.prog W 18 [encV (JV.mk h l)] [] (OutC.ret (encV (JV.mk h l)) []),cloHs [],MutC Tryz.prog W 14 [AV.gs 100001 0 1] [(100001,GE.arr 25 5 [encV (JV.mk h l)] St.own)] (OutC.ret (bA false) [(100001,GE.arr 25 5 [encV (JV.mk h l)] St.own)]),cloHs [(100001,GE.arr 25 5 [encV (JV.mk h l)] St.own)]]):=kr
theorem b7a_0 (W:World) (N L els:List AV) (e0:AV) (t:Int) (n i:Nat):sbodyK Tryz.prog W {lp:=true} 7 0 [] [4,8,9,10,11] (L7a N L els t n i) [Ans.br true,Ans.lg,Ans.opt (some e0),Ans.ev 10000000]=.ok ((XEnd.normal,{t:=[(4,(AV.agg [AV.sl 1 N [],iA t]).ip 0),(8,AV.gs 100010 0 n),(9,AV.sl 7 L []),(10,AV.sl 7 L []),(11,iA (IntKind.i64.wrap ((i:Int)+1)))],h:=[(100010,GE.arr 58 7 (els.set (0+(i:Int).toNat) (stV e0 0 (AV.agg [AV.str [115,112,111,105,108,116],iA 0,iA 0,iA 0,AV.str [],AV.val (Value.slice none 0 0),AV.val (Value.slice none 0 0)]))) St.own)]}),[Ans.ev 10000000],[els[0+(i:Int).toNat]?=some e0,0<=(i:Int)/\(i:Int)<(n:Int),decide ((i:Int)<(n:Int))=true]):=kr
theorem b7a_1 (W:World) (N L els:List AV) (t:Int) (n i:Nat):sbodyK Tryz.prog W {lp:=true} 7 0 [] [4,8,9,10,11] (L7a N L els t n i) [Ans.br false,Ans.ev 10000000]=.ok ((XEnd.exit 0,{t:=[(4,(AV.agg [AV.sl 1 N [],iA t]).ip 0),(8,AV.gs 100010 0 n),(9,AV.sl 7 L []),(10,AV.sl 7 L []),(11,iA (i:Int))],h:=[(100010,GE.arr 58 7 els St.own)]}),[Ans.ev 10000000],[decide ((i:Int)<(n:Int))=false]):=kr
theorem b7b_0 (W:World) (N L els:List AV) (t:Int) (i:Nat):sbodyK Tryz.prog W {lp:=true} 7 1 [] [4,8,9,10,12] (L7b N L els t i) [Ans.br true,Ans.ev 1,Ans.lg,Ans.lg,Ans.ev 10000000]=.ok ((XEnd.normal,{t:=[(4,(AV.agg [AV.sl 1 N [],iA t]).ip 0),(8,AV.gs 100012 0 (els.length+[AV.agg [AV.str [103,114,111,119,110],iA 0,iA 0,iA 0,AV.str [],AV.val (Value.slice none 0 0),AV.val (Value.slice none 0 0)]].length)),(9,AV.sl 7 L []),(10,AV.sl 7 L []),(12,iA (IntKind.i64.wrap ((i:Int)+1)))],h:=[(100010,GE.dead),(100011,GE.arr 58 7 [AV.agg [AV.str [103,114,111,119,110],iA 0,iA 0,iA 0,AV.str [],AV.val (Value.slice none 0 0),AV.val (Value.slice none 0 0)]] St.own),(100012,GE.arr 58 7 (List.take els.length els++[AV.agg [AV.str [103,114,111,119,110],iA 0,iA 0,iA 0,AV.str [],AV.val (Value.slice none 0 0),AV.val (Value.slice none 0 0)]]) St.own)]}),[Ans.ev 10000000],[(els.length+[AV.agg [AV.str [103,114,111,119,110],iA 0,iA 0,iA 0,AV.str [],AV.val (Value.slice none 0 0),AV.val (Value.slice none 0 0)]].length) * 104<=140737488355328,(St.own=St.own\/St.own=St.shr/\els.length=els.length)/\els.length<=els.length,decide ((i:Int)<8)=true]):=kr
theorem b7b_1 (W:World) (N L els:List AV) (t:Int) (i:Nat):sbodyK Tryz.prog W {lp:=true} 7 1 [] [4,8,9,10,12] (L7b N L els t i) [Ans.br false,Ans.ev 10000000]=.ok ((XEnd.exit 2,{t:=[(4,(AV.agg [AV.sl 1 N [],iA t]).ip 0),(8,AV.gs 100010 0 els.length),(9,AV.sl 7 L []),(10,AV.sl 7 L []),(12,iA (i:Int))],h:=[(100010,GE.arr 58 7 els St.own)]}),[Ans.ev 10000000],[decide ((i:Int)<8)=false]):=kr
theorem zlN {φ ph x y} (h:LeP φ ph x y:=by first|exact zl|exact .same rfl hNc|exact .same rfl hLc|exact .same rfl (by simp only [AV.clo,cloL,hNc,hLc,Bool.and_self])|exact .eq (by rw [hgl]) rfl):LeP φ ph x y:=h
theorem ztN {p:Prop} (h:p:=by and_intros<;>first|exact trivial|exact zlN):p:=h
theorem zhN {p:Prop} (h:p:=by and_intros<;>first|exact trivial|exact gOK_eq rfl rfl rfl|exact gOK_arr rfl rfl rfl hLc|exact gOK_arr rfl rfl rfl hclo|exact gOK_arr rfl rfl hset hclo):p:=h
theorem zvN {p:Prop} (h:p:=by and_intros<;>first|rfl|exact trivial|exact allN_cloL hLc|exact allN_cloL hclo|exact allN_clo (by simp only [AV.clo,cloL,hNc,hLc,Bool.and_self])):p:=h
theorem Fe5_m1 {kp f ph σ σ'} (h:MatchK kp f ph σ σ':=by exact Fe5_z1):MatchK kp f ph σ σ':=h
theorem Fe5_m4 {cs} (h:Holds cs:=by simp only [Holds,cloHs,and_true]<;>and_intros<;>first|assumption|exact trivial|exact encV_clo _|exact zd|exact hLc|exact (by rfl)|exact decide_eq_true (by omega)|exact decide_eq_false (by omega)|exact ⟨by omega,by omega⟩|exact Fe5_m1):Holds cs:=h
theorem call34:callable Tryz.prog 34=true:=kr
theorem call7:callable Tryz.prog 7=true:=kr
theorem drop_consN {α:Type} {l:List α} {i:Nat} {x:α} (h:l[i]?=some x):l.drop i=x::l.drop (i+1):=by
 obtain ⟨hi,e⟩:=List.getElem?_eq_some_iff.1 h
 rw [<-e];exact List.drop_eq_getElem_cons hi
theorem get_midN {α:Type} {P S:List α} {x:α} {i:Nat} (h:i=P.length):(P++x::S)[i]?=some x:=by subst h;simp
theorem set_midN {α:Type} {P S:List α} {x y:α} {i:Nat} (h:i=P.length):(P++x::S).set i y=P++y::S:=by subst h;simp
theorem repl_cloN (a:AV) (h:a.clo=true):∀ n:Nat,cloL (List.replicate n a)=true
 | 0=>rfl
 | n+1=>by rw [List.replicate_succ];simp only [cloL,h,repl_cloN a h n,Bool.and_self]
theorem stVspN (x:Nd):stV (encN x) 0 SPN=SPN:=if_pos ⟨rfl,rfl⟩
theorem encN_eq (s:List UInt8) (o:Int) (h2:JH) (l2:List JV):encN (s,o,JV.mk h2 l2)=.agg [.str s,iA o,iA h2.kind,iA h2.int,.str h2.text,.sl 1 (h2.names.map .str) [],.sl 5 (encVs l2) []]:=rfl
section
variable (W:World)
theorem needs34 (xs:List Nd) (hl:xs.length<=2 ^ 31) (hx:∀ x ∈ xs,cntV x.2.2<=2 ^ 30):Pure Tryz.prog W 34 [.sl 7 (xs.map encN) [],.sl 7 (xs.map encN) []] (bA true):=by
 have hLc:=cloL_encN xs
 have key:∀ k,k<=xs.length->LoopC Tryz.prog W [] (nslots Tryz.prog 34) (loopOf Tryz.prog 34 0) (N34 (xs.map encN) (xs.map encN) k) (.exit 0) N34e:=by
  refine loopC_inv (fun k=>N34 (xs.map encN) (xs.map encN) k) (fun k=>k<=xs.length) (fun k=>xs.length - k) (by simp) ?_
  intro k hk
  by_cases hi:k<xs.length
  ·left
   obtain ⟨x,hxk⟩:=getOf hi
   refine ⟨k+1,by omega,by omega,?_⟩
   have hws:IntKind.i64.wrap ((k:Int)+1)=((k+1:Nat):Int):=wrap_succ (by omega)
   have hb1:decide ((k:Int)<((xs.map encN).length:Int))=true:=decide_eq_true (by rw [List.length_map];omega)
   have hget:(xs.map encN)[((k:Int)).toNat]?=some (encN x):=by rw [Int.toNat_natCast,List.getElem?_map,hxk];rfl
   have hxc:=hx x (List.mem_of_getElem? hxk)
   obtain ⟨s,o,v⟩:=x
   have hc:MutC Tryz.prog W 67 [encV v,encV v] [] (.ret (bA true) []):=by
    have:=mut_of_pure (by simp only [cloL,encV_clo,Bool.and_self]) (equal67 W _ v v (Nat.lt_succ_self _) (okV_cnt v (by simp only at hxc;omega)))
    rwa [eqV_true] at this
   have hb2:(!decide (s=s))=false:=by simp
   have hb3:(!decide (o=o))=false:=by simp
   obtain ⟨h2,l2⟩:=v
   rw [encN_eq] at hget
   generalize xs.map encN=L at hLc hb1 hget
   exact body_of_sbodyK mixedz (b34_2 W L k s o h2 l2) Fe5_m4 [] [] Fe5_m1
  ·right
   have e:k=xs.length:=by omega
   subst e
   have hb1:decide ((xs.length:Int)<((xs.map encN).length:Int))=false:=decide_eq_false (by rw [List.length_map];omega)
   generalize xs.map encN=L at hLc hb1
   exact body_of_sbodyK mixedz (b34_3 W L xs.length) Fe5_m4 [] [] Fe5_m1
 have hlp:=key 0 (by omega)
 generalize xs.map encN=L at hLc hlp
 have hb1:(!decide ((L.length:Int)=(L.length:Int)))=false:=by simp
 exact pure_of_mut rfl (mut_of_sfun mixedz call34 rfl (p34_1 W L) Fe5_m4)
theorem needs34M (xs:List Nd) (hl:xs.length<=2 ^ 31) (hx:∀ x ∈ xs,cntV x.2.2<=2 ^ 30):MutC Tryz.prog W 34 [.gs 100010 0 xs.length,.sl 7 (xs.map encN) []] [(100010,.arr 58 7 (xs.map encN) .own)] (.ret (bA true) [(100010,.arr 58 7 (xs.map encN) .own)]):=by
 have hLc:=cloL_encN xs
 have h34:=needs34 W xs hl hx
 have hlo:(xs.map encN).length=xs.length:=List.length_map ..
 have e:clL [(100010,.arr 58 7 (xs.map encN) .own)] [.gs 100010 0 xs.length,.sl 7 (xs.map encN) []]=[.sl 7 (xs.map encN) [],.sl 7 (xs.map encN) []]:=by
  have e1:List.take xs.length (xs.map encN)=xs.map encN:=by rw [<-hlo,List.take_length]
  simp [clL,clA,lk,e1]
 refine mut_of_pureFlat ?_ rfl (by rw [e];simp only [cloL,hLc,AV.clo,Bool.and_self]) rfl (by rw [e];exact h34)
 intro p hp
 simp only [List.mem_cons,List.not_mem_nil,or_false] at hp
 subst hp
 exact ⟨by simp [hg],hLc⟩
theorem qN_clo (n:Nat) (q:JV):cloL (qN n q)=true:=by
 cases n with
 | zero=>rw [qN];rfl
 | succ n=>rw [show qN (n+1) q=q.mems.map (nodeA n) by rw [qN];rfl];exact nodes_clo n _
theorem needs31M (n:Nat) (q:JV) (t:Int) (hc:cntV q<=2 ^ 30):MutC Tryz.prog W 31 [filA n q t] [] (.ret (.gs 100010 0 (needF n q).length) [(100010,.arr 58 7 ((needF n q).map encN) .own)]):=by
 have h73:=needs73M W n q hc
 have hLc:=cloL_encN (needF n q)
 rw [List.length_map] at h73
 generalize (needF n q).map encN=L at h73 hLc
 generalize (needF n q).length=k at h73
 unfold filA
 generalize qN n q=N at h73
 have h31:=mut_of_sfun mixedz call31 rfl (o31_0 W N L t k) Fe5_m4
 exact mut_match [(100010,100001)] [] h31 Fe5_m1
theorem large14M (v:JV) (b:Bool) (h:Pure Tryz.prog W 14 [.sl 5 [encV v] []] (bA b)):MutC Tryz.prog W 14 [.gs 100001 0 1] [(100001,.arr 25 5 [encV v] .own)] (.ret (bA b) [(100001,.arr 25 5 [encV v] .own)]):=by
 refine mut_of_pureFlat ?_ rfl (by simp [clL,clA,lk,cloL,AV.clo,encV_clo]) rfl (by simpa [clL,clA,lk] using h)
 intro p hp
 simp only [List.mem_cons,List.not_mem_nil,or_false] at hp
 subst hp
 exact ⟨by simp [hg],by show cloL [encV v]=true;simp only [cloL,encV_clo,Bool.and_self]⟩
theorem loop7a (N L:List AV) (t:Int) (hNc:cloL N=true) (hLc:cloL L=true) (xs:List Nd) (hl:xs.length<=2 ^ 31):∀ (q i:Nat),xs.length - i=q->i<=xs.length->LoopC Tryz.prog W [] (nslots Tryz.prog 7) (loopOf Tryz.prog 7 0) (L7a N L (List.replicate i SPN++(xs.drop i).map encN) t xs.length i) (.exit 0) (L7e N L (List.replicate xs.length SPN) t xs.length):=by
 intro q
 induction q with
 | zero =>
  intro i hq hi
  have e:i=xs.length:=by omega
  subst e
  have hset:List.replicate xs.length SPN++(xs.drop xs.length).map encN=List.replicate xs.length SPN:=by rw [List.drop_eq_nil_of_le (Nat.le_refl _)];exact List.append_nil _
  have hclo:=repl_cloN SPN rfl xs.length
  exact loop_last (by simp) (body_of_sbodyK mixedz (b7a_1 W N L _ t xs.length xs.length) Fe5_m4 [] [] Fe5_m1)
 | succ q ih =>
  intro i hq hi
  obtain ⟨x,hx⟩:=getOf (l:=xs) (i:=i) (by omega)
  have hws:IntKind.i64.wrap ((i:Int)+1)=((i+1:Nat):Int):=wrap_succ (by omega)
  have nx:=ih (i+1) (by omega) (by omega)
  have e1:List.replicate i SPN++(xs.drop i).map encN=List.replicate i SPN++encN x::(xs.drop (i+1)).map encN:=by rw [drop_consN hx];rfl
  have hget:(List.replicate i SPN++(xs.drop i).map encN)[0+((i:Int)).toNat]?=some (encN x):=by
   rw [Int.toNat_natCast,Nat.zero_add,e1];exact get_midN (by rw [List.length_replicate])
  have hset:(List.replicate i SPN++(xs.drop i).map encN).set (0+((i:Int)).toNat) (stV (encN x) 0 SPN)=List.replicate (i+1) SPN++(xs.drop (i+1)).map encN:=by
   rw [Int.toNat_natCast,Nat.zero_add,e1,set_midN (by rw [List.length_replicate]),stVspN,List.replicate_succ',List.append_assoc];rfl
  have hclo:cloL (List.replicate (i+1) SPN++(xs.drop (i+1)).map encN)=true:=by simp only [clo_append,cloL_encN,repl_cloN SPN rfl,Bool.and_self]
  exact loop_next (body_of_sbodyK mixedz (b7a_0 W N L _ (encN x) t xs.length i) (by clear nx ih;exact Fe5_m4) [] [] (σ3:=L7a N L (List.replicate (i+1) SPN++(xs.drop (i+1)).map encN) t xs.length (i+1)) (by clear nx ih;exact Fe5_m1)) nx
theorem loop7b (N L:List AV) (t:Int) (hNc:cloL N=true) (hLc:cloL L=true):∀ (q i:Nat) (els:List AV),8 - i=q->i<=8->els.length+q<=2 ^ 40->cloL els=true->LoopC Tryz.prog W [] (nslots Tryz.prog 7) (loopOf Tryz.prog 7 1) (L7b N L els t i) (.exit 2) (L7f N L t):=by
 intro q
 induction q with
 | zero =>
  intro i els hq hi hl hclo
  exact loop_last (by simp) (body_of_sbodyK mixedz (b7b_1 W N L els t i) Fe5_m4 [] [] Fe5_m1)
 | succ q ih =>
  intro i els hq hi hl hc
  have hws:IntKind.i64.wrap ((i:Int)+1)=((i+1:Nat):Int):=wrap_succ (by omega)
  have hclo:cloL (els++[GRN])=true:=by rw [clo_append,hc];rfl
  have hgl:els.length+[GRN].length=(els++[GRN]).length:=by rw [List.length_append]
  have nx:=ih (i+1) (els++[GRN]) (by omega) (by omega) (by simp only [List.length_append,List.length_cons,List.length_nil];omega) hclo
  have hset:List.take els.length els++[GRN]=els++[GRN]:=by rw [List.take_length]
  have hb:(els.length+[GRN].length) * 104<=140737488355328:=by show (els.length+1) * 104<=_;omega
  exact loop_next (body_of_sbodyK mixedz (b7b_0 W N L els t i) (by clear nx ih;exact Fe5_m4) [(100010,100012)] [] (σ3:=L7b N L (els++[GRN]) t (i+1)) (by clear nx ih;exact Fe5_m1)) nx
theorem parses7 (q:JV) (hq:cntV q<=2 ^ 29) (hnm:nmV q):Pure Tryz.prog W 7 [encV q] (bA true):=by
 obtain ⟨w,hw⟩:=large14 W [q] (by simp only [cntVs];omega)
 have hc1:=large14M W q w hw
 have hc2:=mut_of_pure (by rfl) (live15 W)
 have hk:=check16 W (n:=sizeV q+1) (q:=q) (Nat.lt_succ_self _) (by omega) hnm
 have hc3:=mut_of_pure (by simp only [cloL,encV_clo,Bool.and_self]) (copy18 W _ q (Nat.lt_succ_self _) (okV_cnt q (by omega)) (by omega))
 have hc4:MutC Tryz.prog W 67 [encV q,encV q] [] (.ret (bA true) []):=by
  have:=mut_of_pure (by simp only [cloL,encV_clo,Bool.and_self]) (equal67 W _ q q (Nat.lt_succ_self _) (okV_cnt q (by omega)))
  rwa [eqV_true] at this
 cases w with
 | true =>
  obtain ⟨h,l⟩:=q
  exact pure_of_mut rfl (mut_of_sfun mixedz call7 rfl (p7g_0 W h l) Fe5_m4)
 | false =>
  cases er:chkQ (sizeV q+1) q 0 0 with
  | error e =>
   have hne:=(chk_err _).2 _ _ _ _ er
   rw [er] at hk
   unfold chkA at hk
   have hc5:=mut_of_pure (by simp only [cloL,encV_clo,Bool.and_self]) hk
   have hc6:=mut_of_pure (by simp only [cloL,encV_clo,Bool.and_self]) (parse17E W er (Nat.lt_succ_self _) (by omega) hnm)
   have hb1:(!decide (e=e))=false:=by simp
   have hb2:(!true == !decide (e=0))=false:=by rw [decide_eq_false hne];rfl
   have hb3:(!(!true == !decide (e=0)))=true:=by rw [hb2];rfl
   obtain ⟨h,l⟩:=q
   exact pure_of_mut rfl (mut_of_sfun mixedz call7 rfl (p7e_1 W h l e) Fe5_m4)
  | ok t =>
   rw [er] at hk
   unfold chkA at hk
   have hc5:=mut_of_pure (by simp only [cloL,encV_clo,Bool.and_self]) hk
   have hc6:=mut_of_pure (by simp only [cloL,encV_clo,Bool.and_self]) (parse17 W er (Nat.lt_succ_self _) (by omega) hnm)
   have hc7:=needs31M W (sizeV q+1) q t (by omega)
   have hc8:=mut_of_pure (by rfl) (needs31 W (sizeV q+1) q t (by omega))
   have hc9:=mut_of_pure (by simp only [cloL,encV_clo,Bool.and_self]) (needs32 W (sizeV q+1) q (Nat.lt_succ_self _) (by omega))
   rw [needR_need _ q 0 0 t (Nat.lt_succ_self _) er] at hc9
   have hc10:=mut_of_pure (by rfl) (terms33 W (sizeV q+1) q t)
   have hnl:=need_len (sizeV q+1) q
   have hsz:=need_sz (B:=2 ^ 29) (sizeV q+1) q (by omega) hnm
   have hszc:∀ x ∈ needF (sizeV q+1) q,cntV x.2.2<=2 ^ 30:=fun x hx=>by have:=(hsz x hx).c;omega
   have hc11:=needs34M W (needF (sizeV q+1) q) (by omega) hszc
   have hLc:=cloL_encN (needF (sizeV q+1) q)
   have hc12:=mut_of_pure (by simp only [cloL,AV.clo,hLc,Bool.and_self]) (needs34 W (needF (sizeV q+1) q) (by omega) hszc)
   have hNc:=qN_clo (sizeV q+1) q
   have hlp:=loop7a W (qN (sizeV q+1) q) ((needF (sizeV q+1) q).map encN) t hNc hLc (needF (sizeV q+1) q) (by omega) _ 0 rfl (Nat.zero_le _)
   have hrl:(List.replicate (needF (sizeV q+1) q).length SPN).length=(needF (sizeV q+1) q).length:=List.length_replicate ..
   have hlp2:=loop7b W (qN (sizeV q+1) q) ((needF (sizeV q+1) q).map encN) t hNc hLc _ 0 (List.replicate (needF (sizeV q+1) q).length SPN) rfl (by omega) (by rw [hrl];omega) (repl_cloN SPN rfl _)
   have hclo:=repl_cloN SPN rfl (needF (sizeV q+1) q).length
   simp only [List.replicate_zero,List.nil_append,List.drop_zero] at hlp
   unfold filA at hc6 hc7 hc8 hc10
   generalize (needF (sizeV q+1) q).map encN=L at hc7 hc8 hc9 hc11 hc12 hlp hlp2 hLc
   generalize (needF (sizeV q+1) q).length=k at hc7 hc11 hlp hlp2 hrl hclo
   generalize qN (sizeV q+1) q=N at hc6 hc7 hc8 hc10 hlp hlp2 hNc
   generalize List.replicate k SPN=els at hlp hlp2 hrl hclo
   subst hrl
   have hb1:(!decide (t=t))=false:=by simp
   obtain ⟨h,l⟩:=q
   exact pure_of_mut rfl (mut_of_sfun mixedz call7 rfl (p7_0 W h l N L els t els.length) Fe5_m4)
end
end Go.Ac

