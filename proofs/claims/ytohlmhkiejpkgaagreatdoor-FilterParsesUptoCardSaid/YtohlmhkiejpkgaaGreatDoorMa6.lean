/- What is proved: plain functions of documents, paths and queries; more of how told runs are read. No condition beyond those that each theorem names. -/
import Derived.Test.YtohlmhkiejpkgaaGreatDoorMa5
import Derived.Lib.Bytealg
set_option linter.all false
namespace Go.Ac
open Go
section
variable {P:Program} {W:World} {f:FuncId}
theorem mut_of_pureFlat {As:List AV} {h:List (Nat×GE)} {r:AV} (hfz:∀ p ∈ h,hg h p.1=some p.2/\Frzable p.2) (hb:bigAll h=true) (hcl:cloL (clL h As)=true) (hfl:r.flt=true) (hc:Pure P W f (clL h As) r):MutC P W f As h (.ret r h):=by
 intro β I w vs hw hlB hi hR
 have ra:=rep0H (N:=As.length) hi hR (Nat.le_refl _) (bigAll_spec hb)
 obtain ⟨r2,hR2⟩:=args_closed ra (fs:=h) (fun p hp=>(hfz p hp).1) (fun p hp=>(hfz p hp).2) hR (LeL.refl _) hcl
 refine (hc β _ _ w vs hw r2.inv.imm hR2).mono ?_
 rintro e w' ⟨I',v,he,hv,hx⟩
 have hx2:Ext I (fun b=>I b\/(I' b/\w.heap.size<=b)) w w' :=
  ⟨hx.heap,hx.size,hx.os,hx.tape,hx.output,fun b hb=>.inl hb,fun b hb=>by
   rcases hb with hb|⟨hb,hle⟩
   ·have:=ra.inv.imm b hb;have:=hx.size;exact ⟨by omega,fun _=>hb⟩
   ·exact ⟨(hx.new b hb).1,fun h=>by omega⟩⟩
 have rb:=ra.ext hx2 (dst:=none) (res:=r) (v:=v) (by intro d hd;cases hd) (hv.flt hfl true)
 obtain ⟨f1,f2,f3,f4,f5,f6,f7,f8,f9⟩:=rb.fr
 exact ⟨β,_,v,he,hv.flt hfl true,rb.inv,⟨f1,f2,f3,f4,f5,f6,f7,f8,f9⟩⟩
theorem mut_subK {As:List AV} {h0 h1 h2:List (Nat×GE)} {r r2:AV} (hM:MutC P W f As h0 (.ret r h1)) (hs:SubK (h0.map (·.1)) ⟨[(0,r)],h1⟩ ⟨[(0,r2)],h2⟩):MutC P W f As h0 (.ret r2 h2):=by
 intro β I w vs hw hlB hi hR
 refine (hM β I w vs hw hlB hi hR).mono fun e w' ⟨β',I',v,q1,q2,q3,q4⟩=>?_
 obtain ⟨f1,f2,f3,f4,f5,f6,f7,f8,f9⟩:=q4
 have r0:RepAt (lentE 1 w I β h0) (AS.mk [(0,r)] h1).den {tmps:=#[v],defers:=[]} w' β' I':=by
  refine ⟨fun i=>?_,q3,⟨f1,f2,f3,f4,f5,f6,f7,f8,f9⟩,rfl,rfl⟩
  show R β' (dom (hg h1)) I' w'.heap true (if 0=i then r else .top) _
  split
  ·rename_i e;subst e;exact q2
  ·exact .top _ _
 obtain ⟨β3,I3,r3⟩:=hs _ pinK_lent _ _ ⟨β',I',r0⟩
 have t0:=r3.tmps 0
 obtain ⟨g1,g2,g3,g4,g5,g6,g7,g8,g9⟩:=r3.fr
 exact ⟨β3,I3,v,q1,t0,r3.inv,⟨g1,g2,g3,g4,g5,g6,g7,g8,g9⟩⟩
theorem mut_subKP {As:List AV} {h0 h1 h2:List (Nat×GE)} {r:AV} (hM:MutC P W f As h0 (.pan r h1)) (hs:SubK (h0.map (·.1)) ⟨[(0,r)],h1⟩ ⟨[(0,r)],h2⟩):MutC P W f As h0 (.pan r h2):=by
 intro β I w vs hw hlB hi hR
 refine (hM β I w vs hw hlB hi hR).mono fun e w' ⟨β',I',v,q1,q2,q3,q4⟩=>?_
 obtain ⟨f1,f2,f3,f4,f5,f6,f7,f8,f9⟩:=q4
 have r0:RepAt (lentE 1 w I β h0) (AS.mk [(0,r)] h1).den {tmps:=#[v],defers:=[]} w' β' I':=by
  refine ⟨fun i=>?_,q3,⟨f1,f2,f3,f4,f5,f6,f7,f8,f9⟩,rfl,rfl⟩
  show R β' (dom (hg h1)) I' w'.heap true (if 0=i then r else .top) _
  split
  ·rename_i e;subst e;exact q2
  ·exact .top _ _
 obtain ⟨β3,I3,r3⟩:=hs _ pinK_lent _ _ ⟨β',I',r0⟩
 have t0:=r3.tmps 0
 obtain ⟨g1,g2,g3,g4,g5,g6,g7,g8,g9⟩:=r3.fr
 exact ⟨β3,I3,v,q1,t0,r3.inv,⟨g1,g2,g3,g4,g5,g6,g7,g8,g9⟩⟩
theorem mut_match {As:List AV} {h0 h1 h2:List (Nat×GE)} {r r2:AV} (f' ph:List (Nat×Nat)) (hM:MutC P W f As h0 (.ret r h1)) (hs:MatchK (h0.map (·.1)) f' ph ⟨[(0,r)],h1⟩ ⟨[(0,r2)],h2⟩):MutC P W f As h0 (.ret r2 h2):=mut_subK hM (sub_match hs)
theorem mut_matchP {As:List AV} {h0 h1 h2:List (Nat×GE)} {r:AV} (f' ph:List (Nat×Nat)) (hM:MutC P W f As h0 (.pan r h1)) (hs:MatchK (h0.map (·.1)) f' ph ⟨[(0,r)],h1⟩ ⟨[(0,r)],h2⟩):MutC P W f As h0 (.pan r h2):=mut_subKP hM (sub_match hs)
theorem mut_frzD {As:List AV} {h0 h1 h2:List (Nat×GE)} {r r2:AV} (fs:List (Nat×GE)) (hM:MutC P W f As h0 (.ret r h1)) (hfs:∀ p ∈ fs,hg h1 p.1=some p.2/\Frzable p.2) (e:clA fs r=r2)
 (hp:pruneK (h0.map (·.1)) [0] ⟨[(0,r2)],frzL1 fs h1⟩=some ⟨[(0,r2)],h2⟩):MutC P W f As h0 (.ret r2 h2):=by
 subst e
 exact mut_subK (mut_frz fs hM hfs) (pruneK_ok hp)
end
def noC:CallF:=fun _ _ _ _=>none
def liftS (ds:List (FuncId×List AV)):Res (XEnd×AS)->Res (XEnd×List (FuncId×List AV)×AS)
 | .ok ((e,σ),as,cs)=>.ok ((e,ds,σ),as,cs)
 | .error e=>.error e
def stopR (P:Program) (b N:Nat) (ops:List Oper) (draw:Bool) (ds:List (FuncId×List AV)) (σ:AS) (as:List Ans) (cs:List Prop):Res (XEnd×List (FuncId×List AV)×AS) :=
 match xregT P noC b N ops draw ds σ with
 | some q=>.ok (q,as,cs)
 | none=>bad 931
def stop (P:Program) (W:World) (G:Cfg) (cf:CallS) (b N:Nat):Nat->Code->List (FuncId×List AV)->AS->List Ans->List Prop->Res (XEnd×List (FuncId×List AV)×AS)
 | 0,_,_,_,_,_=>bad 930
 | n+1,.seq x y,ds,σ,as,cs =>
  match stop P W G cf b N n x ds σ as cs with
  | .ok ((.normal,ds1,σ1),as1,cs1)=>stop P W G cf b N n y ds1 σ1 as1 cs1
  | r=>r
 | n+1,.region id ops draw,ds,σ,as,cs =>
  match anyDef ops.toList with
  | true=>stopR P b N ops.toList draw ds σ as cs
  | false=>liftS ds (scode P W G cf (σ.h.map (·.1)) b N (n+1) (.region id ops draw) σ as cs)
 | n+1,c,ds,σ,as,cs=>liftS ds (scode P W G cf (σ.h.map (·.1)) b N n c σ as cs)
def sfunD2 (P:Program) (F:Nat) (b:Nat) (fn:Func) (h:List (Nat×GE)) (as:List Ans) (cs:List Prop) (q:XEnd×List (FuncId×List AV)×AS):Res OutC :=
 match xEndT P F noC b fn h (some q) with
 | some o=>.ok (o,as,cs)
 | none=>bad 932
def sfunD (P:Program) (W:World) (G:Cfg) (F n:Nat) (f:FuncId) (As:List AV) (h:List (Nat×GE)) (b:Nat) (as:List Ans) (cs:List Prop):Res OutC :=
 match P.funcs[f]? with
 | some fn =>
  match fn.body with
  | some c=>if As.length<=fn.ntmps/\100000<=b then
   match stop P W G (sfun P W G F n) b fn.ntmps F c [] ⟨argT 0 As,h⟩ as cs with
   | .ok (q,as1,cs1)=>sfunD2 P F b fn h as1 cs1 q
   | .error e=>.error e
   else bad 933
  | none=>bad 934
 | none=>bad 935
section
variable {P:Program} {W:World} {G:Cfg} {cf:CallS} {b N:Nat}
theorem pin_rep {E:Env} {σ:AS} {a:Act} {w:World} (hr:Rep E σ.den a w):pinK (σ.h.map (·.1)) E:=by
 obtain ⟨β,I,r⟩:=hr
 intro k p hp
 obtain ⟨_,q2,_⟩:=r.fr.pin k p hp
 have q2':(hg σ.h k).isSome=true:=q2
 obtain ⟨g,hgk⟩:=Option.isSome_iff_exists.1 q2'
 exact memN_of (List.mem_map.2 ⟨_,hg_mem hgk,rfl⟩)
theorem stop_ok (hm:P.follows .mixedOrders=true) {F0 n0:Nat}:∀ (n:Nat) (c:Code) (ds ds1:List (FuncId×List AV)) (σ σ1:AS) (e:XEnd) (as as':List Ans) (cs cs':List Prop),stop P W G (sfun P W G F0 n0) b N n c ds σ as cs=.ok ((e,ds1,σ1),as',cs')->Holds cs' →
 Holds cs/\∀ E:Env,E.good W->E.N=N->DefsR E.pin ds E.dl->∀ a w,Rep E σ.den a w->c.wp P (PostT E e ds1 σ1) a w
 | 0,c,ds,ds1,σ,σ1,e,as,as',cs,cs',h,hc=>by simp [stop,bad] at h
 | n+1,c,ds,ds1,σ,σ1,e,as,as',cs,cs',h,hc=>by
  have other:∀ {m:Nat} {c:Code},liftS ds (scode P W G (sfun P W G F0 n0) (σ.h.map (·.1)) b N m c σ as cs)=.ok ((e,ds1,σ1),as',cs') →
   Holds cs/\∀ E:Env,E.good W->E.N=N->DefsR E.pin ds E.dl->∀ a w,Rep E σ.den a w->c.wp P (PostT E e ds1 σ1) a w:=by
   intro m c h
   unfold liftS at h
   split at h
   ·rename_i e0 σ0 as1 cs1 h1
    cases h
    obtain ⟨q1,q2⟩:=(scode_ok hm (sfun_ok hm F0 n0) m).1 c σ σ1 e as _ cs _ h1 hc
    exact ⟨q1,fun E g hN hD a w hr=>wp_mono (q2 E g hN (pin_rep hr) a w hr) fun e' a' w' q=>post_lift hD q⟩
   ·cases h
  cases c with
  | seq x y =>
   simp only [stop] at h
   split at h
   ·rename_i ds2 σ2 as1 cs1 h1
    obtain ⟨q1,q2⟩:=stop_ok hm n y ds2 ds1 σ2 σ1 e _ _ _ _ h hc
    obtain ⟨p1,p2⟩:=stop_ok hm n x ds ds2 σ σ2 .normal _ _ _ _ h1 q1
    refine ⟨p1,fun E g hN hD a w hr=>wp_seq (wp_mono (p2 E g hN hD a w hr) fun e' a' w' ⟨E',r0,r1,r2,r3⟩=>?_)⟩
    obtain rfl:e'=.normal:=r2
    exact wp_mono (q2 E' (r0.good g) (r0.N.trans hN) r1 a' w' r3) fun e' a' w' ⟨E'',s0,s1⟩=>⟨E'',r0.trans s0,s1⟩
   ·rename_i hne
    obtain ⟨p1,p2⟩:=stop_ok hm n x ds ds1 σ σ1 e _ _ _ _ h hc
    refine ⟨p1,fun E g hN hD a w hr=>wp_seq (wp_mono (p2 E g hN hD a w hr) fun e' a' w' ⟨E',q0,q1,q2,q3⟩=>?_)⟩
    cases e with
    | normal=>exact absurd h (hne ds1 σ1 as' cs')
    | exit i=>obtain rfl:e'=.exit i:=q2;exact ⟨E',q0,q1,rfl,q3⟩
    | ret=>obtain rfl:e'=.ret:=q2;exact ⟨E',q0,q1,rfl,q3⟩
    | pan v=>obtain ⟨u,hu,rfl⟩:=q2;exact ⟨E',q0,q1,⟨u,hu,rfl⟩,q3⟩
  | region id ops draw =>
   simp only [stop] at h
   split at h
   ·unfold stopR at h
    split at h
    case h_2=>cases h
    rename_i q hq
    cases h
    refine ⟨hc,fun E g hN hD a w hr=>?_⟩
    exact xtop_ok (cf:=noC) hm noC_ok 1 (.region id ops draw) ds ds1 σ σ1 e (by simpa only [xtop] using hq) E g hN hD a w hr
   ·exact other h
  | _=>exact other (by simpa only [stop] using h)
theorem mut_of_sfunD (hm:P.follows .mixedOrders=true) {F n:Nat} {f:FuncId} {As:List AV} {h:List (Nat×GE)} {b:Nat} {oc:OutC} {as as':List Ans} {cs:List Prop} (hcl:callable P f=true) (hbig:bigAll h=true)
 (hx:sfunD P W G F n f As h b as []=.ok (oc,as',cs)) (hc:Holds cs):MutC P W f As h oc:=by
 unfold sfunD at hx
 split at hx
 case h_2=>cases hx
 rename_i fn hf
 split at hx
 case h_2=>cases hx
 rename_i c hcode
 split at hx
 case isFalse=>cases hx
 rename_i hcond
 split at hx
 case h_2=>cases hx
 rename_i q as1 cs1 hx1
 obtain ⟨e,ds,σ1⟩:=q
 unfold sfunD2 at hx
 split at hx
 case h_2=>cases hx
 rename_i o hx2
 cases hx
 obtain ⟨_,hstop⟩:=stop_ok hm F c [] ds _ σ1 e as _ [] _ hx1 hc
 intro β I w vs hw hlB hi hR
 refine calls_of_wp_defers hf hcode ?_
 have hr:=rep0H hi hR hcond.1 (bigAll_spec hbig)
 have hg':Env.good W (lentE fn.ntmps w I β h):=⟨hw,hlB⟩
 have leave:∀ (m:Option AV) (u:FrameMode) (E':Env) (a':Act) (w':World),xfin P fn h (xleave P F noC b ds m σ1)=some oc->ModeR m u->Ele (lentE fn.ntmps w I β h) E'->DefsR E'.pin ds E'.dl->Rep E' σ1.den a' w' →
  Leaves P fn a'.tmps (fun e w'=>∃ β' I' v,EndIs oc e v/\R β' (dom (hg oc.h)) I' w'.heap true oc.v v/\Inv β' I' (hg oc.h) w'.heap/\Fr (lentE 0 w I β h) β' I' (hg oc.h) w') a'.defers u w':=by
  intro m u E' a' w' hxf hmode hE hD hr'
  have hdl:a'.defers=E'.dl:=by obtain ⟨_,_,r'⟩:=hr';exact r'.defers
  rw [hdl]
  cases hxl:xleave P F noC b ds m σ1 with
  | none=>rw [hxl] at hxf;cases hxf
  | some q =>
   obtain ⟨m',σ2⟩:=q
   rw [hxl] at hxf
   refine xleave_ok (cf:=noC) hm F noC_ok (hE.good hg') ds m m' σ1 σ2 E'.dl u w' hxl hD hr' hmode ?_
   rintro w2 u2 ⟨β2,I2,r2⟩ hm2
   cases m' with
   | none =>
    have hu2:u2=.returning:=hm2
    subst hu2
    simp only [xfin] at hxf
    cases hxr:xRes P fn h σ2 with
    | none=>rw [hxr] at hxf;cases hxf
    | some p =>
     obtain ⟨r,h'⟩:=p
     rw [hxr] at hxf
     simp only [Option.map_some,Option.some.injEq] at hxf
     subst hxf
     unfold xRes at hxr
     split at hxr
     case h_2=>cases hxr
     rename_i Xs hXs
     obtain ⟨rfl,ns,q1,q2,q3⟩:=cleanX_spec hxr
     obtain ⟨v,hv,hRv⟩:=results_run (P:=P) r2 hXs
     have:=clean_fin r2.inv (r2.fr.ele hE) hRv q1 q2 q3
     exact ⟨v,hv,β2,I2,v,rfl,this.1,this.2.1,this.2.2⟩
   | some pv =>
    obtain ⟨v,hcv,rfl⟩:=hm2
    simp only [xfin] at hxf
    cases hxr:cleanX h .top σ2.h with
    | none=>rw [hxr] at hxf;cases hxf
    | some p =>
     obtain ⟨r,h'⟩:=p
     rw [hxr] at hxf
     simp only [Option.map_some,Option.some.injEq] at hxf
     subst hxf
     obtain ⟨_,ns,q1,q2,q3⟩:=cleanX_spec hxr
     have:=clean_fin (v:=undef) r2.inv (r2.fr.ele hE) (.top _ _) q1 q2 q3
     exact ⟨β2,I2,v,rfl,hcv _ _ _ _ _,this.2.1,this.2.2⟩
 refine wp_mono (hstop _ hg' rfl .nil _ w ⟨β,I,hr⟩) fun e' a' w' ⟨E',q0,q1,q2,q3⟩=>?_
 cases e with
 | normal=>obtain rfl:e'=.normal:=q2;exact leave none .returning E' a' w' hx2 rfl q0 q1 q3
 | ret=>obtain rfl:e'=.ret:=q2;exact leave none .returning E' a' w' hx2 rfl q0 q1 q3
 | exit i=>cases hx2
 | pan v=>obtain ⟨u,hu,rfl⟩:=q2;exact leave (some v) _ E' a' w' hx2 ⟨u,hu,rfl⟩ q0 q1 q3
end
end Go.Ac

namespace Go.Ac
open Go
def cutR (ks:List Nat):Res (XEnd×AS)->Res (XEnd×AS)
 | .ok ((e,σ),as,cs)=>.ok ((e,⟨keepS ks σ.t,σ.h⟩),as,cs)
 | .error e=>.error e
def sbodyK (P:Program) (W:World) (G:Cfg) (f k:Nat) (kp ks:List Nat) (σ:AS) (q:List Ans):Res (XEnd×AS):=cutR ks (sbodyM P W G f k kp σ q)
theorem body_of_sbodyK {P:Program} {W:World} {G:Cfg} {f k:Nat} {kp ks:List Nat} {σ σ2 σ3:AS} {q r:List Ans} {e:XEnd} {cs:List Prop} (hm:P.follows .mixedOrders=true) (hx:sbodyK P W G f k kp ks σ q=.ok ((e,σ2),r,cs)) (hc:Holds cs) (φ ph:List (Nat×Nat)) (hp:MatchK kp φ ph σ2 σ3) :
 BodyC P W kp (nslots P f) (loopOf P f k) σ e σ3:=by
 unfold sbodyK cutR at hx
 split at hx
 ·rename_i e1 σ1 as cs1 h1
  cases hx
  exact body_sub (SubK.refl _ _) ((scode_ok hm (sfun_ok hm 1000 8) 1000).1 _ σ σ1 e _ _ [] _ h1 hc).2 ((sub_keepS kp ks σ1).trans (sub_match hp))
 ·cases hx
end Go.Ac

namespace Go.Ac
open Go
def clMG (fs:List (Nat×GE)):GE->GE
 | .map es .own=>.map (es.map fun p=>(p.1,clA fs p.2)) .own
 | g=>g
theorem clL_map (fs:List (Nat×GE)):∀ l:List AV,clL fs l=l.map (clA fs)
 | []=>by simp only [clL,List.map_nil]
 | a::l=>by simp only [clL,List.map_cons,clL_map fs l]
theorem sub_clM {σ:SS} {fs:List (Nat×GE)} (hfs:∀ p ∈ fs,σ.h p.1=some (frzGE p.2)/\Frzable p.2):Sub σ ⟨σ.t,fun i=>(σ.h i).map (clMG fs)⟩:=by
 rintro E a w ⟨β,I,r⟩
 have hd:dom (fun i=>(σ.h i).map (clMG fs))=dom σ.h:=by funext i;simp [dom]
 have back:∀ i g,(σ.h i).map (clMG fs)=some g->∃ g0,σ.h i=some g0/\g=clMG fs g0:=fun i g hi=>by
  cases h:σ.h i with
  | none=>rw [h] at hi;cases hi
  | some g0=>rw [h] at hi;cases hi;exact ⟨g0,rfl,rfl⟩
 refine ⟨β,I,fun i=>?_,⟨fun i g hi=>?_,r.inv.imm,?_⟩,?_,r.size,r.defers⟩
 ·show R β (dom fun i=>(σ.h i).map (clMG fs)) _ _ _ _ _
  rw [hd];exact r.tmps i
 ·obtain ⟨g0,h0,rfl⟩:=back i g hi
  have h1:=r.inv.ge i g0 h0
  show GEok β (dom fun i=>(σ.h i).map (clMG fs)) _ _ _ _
  rw [hd]
  cases g0 with
  | map es st =>
   cases st<;>try exact h1
   obtain ⟨ms,c,g1,g2,g3,g4⟩:=h1
   refine ⟨ms,c,g1,by rw [List.map_map];exact g2,?_,g4⟩
   have:=RL_clL r hfs g3
   rw [clL_map,List.map_map] at this
   rw [List.map_map];exact this
  | arr e n els st=>exact h1
  | iter s p=>exact h1
  | dead=>exact h1
  | box el st=>exact h1
 ·intro i i' g g' hne h1 h2 b1 b2 hb
  obtain ⟨g0,q1,rfl⟩:=back i g h1
  obtain ⟨g0',q2,rfl⟩:=back i' g' h2
  have hbk:∀ i g0,Backed (β i) (clMG fs g0)->Backed (β i) g0:=fun i g0 h=>by
   cases g0 with
   | map es st=>trivial
   | box el st=>trivial
   | arr e n els st=>exact h
   | iter s p=>trivial
   | dead=>exact h
  have:=r.inv.sep i i' g0 g0' hne q1 q2 (hbk _ _ b1) (hbk _ _ b2) hb
  cases g0 with
  | box el st=>exact this.elim
  | map es st=>exact this.elim
  | iter s p=>exact this.elim
  | dead=>exact this.elim
  | arr e n els st =>
   cases g0' with
   | box el' st'=>cases st<;>exact this.elim
   | map el' st'=>cases st<;>exact this.elim
   | iter s p=>cases st<;>exact this.elim
   | dead=>cases st<;>exact this.elim
   | arr e' n' els' st'=>exact this
 ·obtain ⟨f1,f2,f3,f4,f5,f6,f7,f8,f9⟩:=r.fr
  exact ⟨f1,f2,f3,f4,f5,f6,f7,fun k g hk=>by
   obtain ⟨g0,h0,rfl⟩:=back k g hk
   have:=f8 k g0 h0
   cases g0 with
   | arr e n els st=>exact this
   | map es st=>cases st<;>exact this
   | iter s p=>exact this
   | dead=>exact this
   | box el st=>exact this,fun k p hp=>⟨(f9 k p hp).1,by simpa using (f9 k p hp).2.1,(f9 k p hp).2.2⟩⟩
def clML (fs:List (Nat×GE)):List (Nat×GE)->List (Nat×GE)
 | []=>[]
 | (k,g)::l=>(k,clMG fs g)::clML fs l
theorem hg_clML (fs:List (Nat×GE)):∀ (l:List (Nat×GE)) (i:Nat),hg (clML fs l) i=(hg l i).map (clMG fs)
 | [],_=>rfl
 | (k,g)::l,i=>by
  simp only [clML,hg]
  split
  ·rfl
  ·exact hg_clML fs l i
theorem mut_clM {P:Program} {W:World} {f:FuncId} {As:List AV} {h0 h1:List (Nat×GE)} {r:AV} (fs:List (Nat×GE)) (hM:MutC P W f As h0 (.ret r h1)) (hfs:∀ p ∈ fs,hg h1 p.1=some (frzGE p.2)/\Frzable p.2):MutC P W f As h0 (.ret r (clML fs h1)):=by
 refine mut_sub hM (sub_clM (σ:=retS r h1) hfs) (by simp [retS]) ?_
 funext i
 show (hg h1 i).map (clMG fs)=_
 rw [hg_clML]
end Go.Ac

namespace Go.Ac
open Go
section
variable {P:Program} {W:World} {f:FuncId}
theorem hg_one {k:Nat} {g:GE} {i:Nat} {g':GE} (h:hg [(k,g)] i=some g'):i=k/\g'=g:=by
 simp only [hg] at h
 split at h
 ·rename_i e;cases h;exact ⟨e.symm,rfl⟩
 ·cases h
theorem hg_self {k:Nat} {g:GE}:hg [(k,g)] k=some g:=by simp [hg]
theorem mut_name {k1 k2:Nat} {x y r:AV} {rest:List AV} (hk2:100000<=k2) (hx:x.clo=true) (hxf:cloL x.flat=true) (hyf:cloL y.flat=true) (hr:r.clo=true) (hrest:cloL rest=true)
 (h:MutC P W f (.gp k1 0::rest) [(k1,.box x .own)] (.ret r [(k1,.box y .own)])):MutC P W f (.gp k2 0::rest) [(k2,.box x .own)] (.ret r [(k2,.box y .own)]):=by
 intro β I w vs hw hlB hi hR
 have hlb:∀ b,lentB (fun _=>β k2) [(k1,.box x .own)] b->lentB β [(k2,.box x .own)] b:=by
  rintro b ⟨k,g,hk,hb,hs,he⟩
  obtain ⟨_,rfl⟩:=hg_one hk
  exact ⟨k2,_,hg_self,hb,hs,he⟩
 have hlb':∀ b,lentB β [(k2,.box x .own)] b->lentB (fun _=>β k2) [(k1,.box x .own)] b:=by
  rintro b ⟨k,g,hk,hb,hs,he⟩
  obtain ⟨rfl,rfl⟩:=hg_one hk
  exact ⟨k1,_,hg_self,hb,hs,he⟩
 have hi1:Inv (fun _=>β k2) I (hg [(k1,.box x .own)]) w.heap:=by
  refine ⟨fun k g hk=>?_,hi.imm,fun k k' g g' hne h1 h2=>?_⟩
  ·obtain ⟨_,rfl⟩:=hg_one hk
   obtain ⟨us,T,g1,g2,g3,g4,g5,g6⟩:=hi.ge k2 _ hg_self
   exact ⟨us,T,g1,g2,(g3.clo hxf).closed (fun b hb=>⟨hb,rfl⟩) rfl true,g4,g5,g6⟩
  ·obtain ⟨rfl,_⟩:=hg_one h1
   obtain ⟨rfl,_⟩:=hg_one h2
   exact absurd rfl hne
 have hR1:RL (fun _=>β k2) (dom (hg [(k1,.box x .own)])) I w.heap true (.gp k1 0::rest) vs:=by
  cases hR with
  | cons h1 h2 =>
   refine .cons ?_ ((h2.clo hrest).closed (fun b hb=>⟨hb,rfl⟩) rfl true)
   cases h1 with
   | gp hD=>exact .gp (β:=fun _=>β k2) (k:=k1) (c:=0) (show dom (hg [(k1,GE.box x .own)]) k1 by simp [dom,hg])
 refine (h _ I w vs hw (fun b hb=>hlB b (hlb b hb)) hi1 hR1).mono fun e w' ⟨β',I',v,q1,q2,q3,q4⟩=>?_
 obtain ⟨f1,f2,f3,f4,f5,f6,f7,f8,f9⟩:=q4
 have hp:=(f9 k1 (β k2) (by simp [lentE,hg])).2.2
 obtain ⟨us,T,g1,g2,g3,g4,g5,g6⟩:=q3.ge k1 _ hg_self
 rw [hp] at g1 g2 g5 g6
 refine ⟨β,I',v,q1,(q2.clo hr).closed (fun b hb=>⟨hb,rfl⟩) rfl true,⟨fun k g hk=>?_,q3.imm,fun k k' g g' hne h1 h2=>?_⟩,⟨f1,f2,f3,f4,(fun b hb hn=>f5 b hb fun hl=>hn (hlb b hl)),f6,(fun b hb hlt=>(f7 b hb hlt).imp id (hlb b)),(fun k g hk hbk hs=>?_),fun k p hk=>?_⟩⟩
 ·obtain ⟨rfl,rfl⟩:=hg_one hk
  exact ⟨us,T,g1,g2,(g3.clo hyf).closed (fun b hb=>⟨hb,rfl⟩) rfl true,g4,g5,g6⟩
 ·obtain ⟨rfl,_⟩:=hg_one h1
  obtain ⟨rfl,_⟩:=hg_one h2
  exact absurd rfl hne
 ·obtain ⟨rfl,rfl⟩:=hg_one hk
  have:=f8 k1 _ hg_self trivial hs
  rw [hp] at this
  exact this.imp id (hlb _)
 ·have hk':(if (hg [(k2,GE.box x .own)] k).isSome=true then some (β k) else none)=some p:=hk
  split at hk'
  ·rename_i hs
   obtain ⟨g,hgk⟩:=Option.isSome_iff_exists.1 hs
   obtain ⟨rfl,_⟩:=hg_one hgk
   cases hk'
   exact ⟨hk2,by show (hg [(_,GE.box y .own)] _).isSome=true;rw [hg_self];rfl,rfl⟩
  ·cases hk'
theorem mut_flat1 {k:Nat} {x y:AV} {As:List AV} {o:OutC} (he:x.flat=y.flat) (h:MutC P W f As [(k,.box x .own)] o):MutC P W f As [(k,.box y .own)] o:=by
 have hd:dom (hg [(k,GE.box y .own)])=dom (hg [(k,GE.box x .own)]):=by
  funext i
  show ((hg [(k,GE.box y .own)] i).isSome=true)=((hg [(k,GE.box x .own)] i).isSome=true)
  simp only [hg];split<;>rfl
 intro β I w vs hw hlB hi hR
 have hlb:lentB β [(k,.box y .own)]=lentB β [(k,.box x .own)]:=by
  funext b
  apply propext
  constructor
  ·rintro ⟨k',g,hk,hb,hs,he⟩;obtain ⟨rfl,rfl⟩:=hg_one hk;exact ⟨_,_,hg_self,trivial,hs,he⟩
  ·rintro ⟨k',g,hk,hb,hs,he⟩;obtain ⟨rfl,rfl⟩:=hg_one hk;exact ⟨_,_,hg_self,trivial,hs,he⟩
 have hle:lentE 0 w I β [(k,.box y .own)]=lentE 0 w I β [(k,.box x .own)]:=by
  unfold lentE
  rw [hlb]
  congr 1
  funext i
  have:=congrFun hd i
  simp only [dom] at this
  by_cases q:(hg [(k,GE.box y .own)] i).isSome=true
  ·rw [if_pos q,if_pos (by rw [<-this];exact q)]
  ·rw [if_neg q,if_neg (by rw [<-this];exact q)]
 rw [hlb] at hlB
 rw [hd] at hR
 rw [hle]
 refine h β I w vs hw hlB ⟨fun k' g hk=>?_,hi.imm,fun k k' g g' hne h1 h2=>?_⟩ hR
 ·obtain ⟨rfl,rfl⟩:=hg_one hk
  obtain ⟨us,T,g1,g2,g3,g4,g5,g6⟩:=hi.ge _ _ hg_self
  rw [hd] at g3
  exact ⟨us,T,g1,g2,by rw [he];exact g3,g4,g5,g6⟩
 ·obtain ⟨rfl,_⟩:=hg_one h1
  obtain ⟨rfl,_⟩:=hg_one h2
  exact absurd rfl hne
end
end Go.Ac

namespace Go.Ac
open Go
def wrapG:GE->GE
 | .box (.agg cs) st=>.box (.agg cs) st
 | .box x st=>.box (.agg [x]) st
 | g=>g
def wrapL (k:Nat):List (Nat×GE)->List (Nat×GE)
 | []=>[]
 | (i,g)::l=>(i,if i=k then wrapG g else g)::wrapL k l
theorem hg_wrapL (k:Nat):∀ (l:List (Nat×GE)) (i:Nat),hg (wrapL k l) i=(hg l i).map fun g=>if i=k then wrapG g else g
 | [],_=>rfl
 | (j,g)::l,i=>by
  simp only [wrapL,hg]
  split
  ·rename_i e;subst e;rfl
  ·exact hg_wrapL k l i
theorem wrapG_ok {β:Nat->Plc} {D I:Nat->Prop} {H:Array Obj} {k:Nat} {g:GE} (h:GEok β D I H k g):GEok β D I H k (wrapG g):=by
 cases g with
 | box x st=>cases x<;>exact h
 | _=>exact h
theorem wrapG_st (g:GE):(wrapG g).st=g.st:=by
 cases g with
 | box x st=>cases x<;>rfl
 | _=>rfl
theorem wrapG_bk {p:Plc} {g:GE} (h:Backed p (wrapG g)):Backed p g:=by
 cases g with
 | box x st=>trivial
 | _=>exact h
theorem wrapG_cp {g g':GE} (h:Compat g g'):Compat (wrapG g) (wrapG g'):=by
 cases g with
 | box x st=>exact h.elim
 | map es st=>exact h.elim
 | iter s p=>exact h.elim
 | dead=>exact h.elim
 | arr e n els st =>
  cases g' with
  | box el' st'=>cases st<;>exact h.elim
  | map el' st'=>cases st<;>exact h.elim
  | iter s p=>cases st<;>exact h.elim
  | dead=>cases st<;>exact h.elim
  | arr e' n' els' st'=>exact h
theorem wrapG_cpL {g g':GE} (h:Compat g g'):Compat (wrapG g) g':=by
 cases g with
 | box x st=>exact h.elim
 | _=>exact h
theorem wrapG_cpR {g g':GE} (h:Compat g g'):Compat g (wrapG g'):=by
 cases g' with
 | box x st=>cases g with
  | arr e n els s=>cases s<;>exact h.elim
  | _=>exact h.elim
 | _=>exact h
theorem sub_wrap (kp:List Nat) (k:Nat) (σ:AS):SubK kp σ ⟨σ.t,wrapL k σ.h⟩:=by
 rintro E hE a w ⟨β,I,r⟩
 have hd:dom (hg (wrapL k σ.h))=dom (hg σ.h):=by
  funext i
  show ((hg (wrapL k σ.h) i).isSome=true)=((hg σ.h i).isSome=true)
  rw [hg_wrapL];simp
 have back:∀ i g,hg (wrapL k σ.h) i=some g->∃ g0,hg σ.h i=some g0/\(g=g0\/g=wrapG g0):=fun i g hi=>by
  rw [hg_wrapL] at hi
  cases h:hg σ.h i with
  | none=>rw [h] at hi;cases hi
  | some g0 =>
   rw [h] at hi
   simp only [Option.map_some,Option.some.injEq] at hi
   refine ⟨g0,rfl,?_⟩
   split at hi
   ·exact .inr hi.symm
   ·exact .inl hi.symm
 refine ⟨β,I,fun i=>?_,⟨fun i g hi=>?_,r.inv.imm,?_⟩,?_,r.size,r.defers⟩
 ·show R β (dom (hg (wrapL k σ.h))) I w.heap true (tg σ.t i) _
  rw [hd];exact r.tmps i
 ·obtain ⟨g0,h0,hg0⟩:=back i g hi
  have h1:=r.inv.ge i g0 h0
  show GEok β (dom (hg (wrapL k σ.h))) I w.heap i g
  rw [hd]
  rcases hg0 with rfl|rfl
  ·exact h1
  ·exact wrapG_ok h1
 ·intro i i' g g' hne h1 h2 b1 b2 hb
  obtain ⟨g0,q1,e1⟩:=back i g h1
  obtain ⟨g0',q2,e2⟩:=back i' g' h2
  have c1:Backed (β i) g0:=by rcases e1 with rfl|rfl;exact b1;exact wrapG_bk b1
  have c2:Backed (β i') g0':=by rcases e2 with rfl|rfl;exact b2;exact wrapG_bk b2
  have:=r.inv.sep i i' g0 g0' hne q1 q2 c1 c2 hb
  rcases e1 with rfl|rfl<;>rcases e2 with rfl|rfl
  ·exact this
  ·exact wrapG_cpR this
  ·exact wrapG_cpL this
  ·exact wrapG_cp this
 ·obtain ⟨f1,f2,f3,f4,f5,f6,f7,f8,f9⟩:=r.fr
  refine ⟨f1,f2,f3,f4,f5,f6,f7,fun i g hi hb hs=>?_,fun i p hp=>?_⟩
  ·obtain ⟨g0,h0,hg0⟩:=back i g hi
   rcases hg0 with rfl|rfl
   ·exact f8 i g h0 hb hs
   ·exact f8 i g0 h0 (wrapG_bk hb) (by rw [wrapG_st] at hs;exact hs)
  ·have:=f9 i p hp
   exact ⟨this.1,by have h:=congrFun hd i;exact (show dom (hg (wrapL k σ.h)) i by rw [h];exact this.2.1),this.2.2⟩
theorem body_of_sbodyKW {P:Program} {W:World} {G:Cfg} {f k:Nat} {kp ks:List Nat} {σ σ2 σ3:AS} {q r:List Ans} {e:XEnd} {cs:List Prop} (n:Nat) (hm:P.follows .mixedOrders=true) (hx:sbodyK P W G f k kp ks σ q=.ok ((e,σ2),r,cs)) (hc:Holds cs) (φ ph:List (Nat×Nat)) (hp:MatchK kp φ ph ⟨σ2.t,wrapL n σ2.h⟩ σ3) :
 BodyC P W kp (nslots P f) (loopOf P f k) σ e σ3:=by
 unfold sbodyK cutR at hx
 split at hx
 ·rename_i e1 σ1 as cs1 h1
  cases hx
  exact body_sub (SubK.refl _ _) ((scode_ok hm (sfun_ok hm 1000 8) 1000).1 _ σ σ1 e _ _ [] _ h1 hc).2 (((sub_keepS kp ks σ1).trans (sub_wrap kp n _)).trans (sub_match hp))
 ·cases hx
end Go.Ac

namespace Go.Ac
open Go
set_option maxRecDepth 4000
def JV.mem (j:JV):Nat:=if j.items.length<j.names.length then j.items.length else j.names.length
theorem JV.mem_names (j:JV):j.mem<=j.names.length:=by unfold JV.mem;split<;>omega
theorem JV.mem_items (j:JV):j.mem<=j.items.length:=by unfold JV.mem;split<;>omega
def placeL (s:List UInt8):List (List UInt8)->Nat->Nat->Int
 | _,0,_=>-1
 | [],_,_=>-1
 | x::l,n+1,i=>if x=s then i else placeL s l n (i+1)
def JV.place (j:JV) (s:List UInt8):Int:=placeL s j.names j.mem 0
theorem indexByte_neg (c:UInt8):∀ s:List UInt8,Lib.indexByte s c<0 ↔ c ∉ s
 | []=>by simp [Lib.indexByte]
 | x::l=>by
  have ih:=indexByte_neg c l
  simp only [Lib.indexByte]
  by_cases h:x=c
  ·simp [h]
  ·have h2:¬ c=x:=fun e=>h e.symm
   simp only [h,beq_iff_eq,if_false,List.mem_cons,h2,false_or,<-ih]
   split<;>omega
def splitD (c:UInt8):List UInt8->List (List UInt8)
 | []=>[[]]
 | x::l=>if x=c then []::splitD c l else match splitD c l with|[]=>[[x]]|y::r=>(x::y)::r
theorem splitD_ne (c:UInt8):∀ s:List UInt8,splitD c s ≠ []
 | []=>by simp [splitD]
 | x::l=>by
  simp only [splitD]
  split
  ·simp
  ·split<;>simp
theorem splitD_one (c:UInt8):∀ s:List UInt8,Lib.indexByte s c<0->splitD c s=[s]
 | [],_=>rfl
 | x::l,h=>by
  have hm:=(indexByte_neg c (x::l)).1 h
  simp only [List.mem_cons,not_or] at hm
  simp only [splitD]
  rw [if_neg (fun e=>hm.1 e.symm),splitD_one c l ((indexByte_neg c l).2 hm.2)]
theorem splitD_cut (c:UInt8):∀ (s:List UInt8) (m:Nat),Lib.indexByte s c=m->splitD c s=s.take m::splitD c (s.drop (m+1))/\m<s.length
 | [],m,h=>by simp [Lib.indexByte] at h
 | x::l,m,h=>by
  simp only [Lib.indexByte] at h
  by_cases hx:x=c
  ·simp only [hx,beq_self_eq_true,if_true] at h
   have:m=0:=by omega
   subst this
   simp [splitD,hx]
  ·simp only [hx,beq_iff_eq,if_false] at h
   cases m with
   | zero=>split at h<;>omega
   | succ m =>
    obtain ⟨h1,h2⟩:=splitD_cut c l m (by split at h<;>omega)
    simp only [splitD,if_neg hx,h1,List.take_succ_cons,List.drop_succ_cons,List.length_cons]
    exact ⟨trivial,by omega⟩
theorem splitD_len (c:UInt8):∀ s:List UInt8,(splitD c s).length=Lib.countByte s c+1
 | []=>rfl
 | x::l=>by
  have ih:=splitD_len c l
  have hne:=splitD_ne c l
  simp only [splitD,Lib.countByte,List.count_cons] at ih ⊢
  by_cases hx:x=c
  ·simp [hx,ih]
  ·simp only [hx,if_false,beq_iff_eq,Nat.add_zero]
   split
   ·rename_i e;exact absurd e hne
   ·rename_i y r e;rw [e] at ih;simpa using ih
theorem countByte_le (s:List UInt8) (c:UInt8):Lib.countByte s c<=s.length:=List.count_le_length
theorem u8_eq (c d:UInt8) (n:Int) (h:(d.toNat:Int)=n):(c.toNat:Int)=n ↔ c=d:=by
 subst h
 exact ⟨fun e=>UInt8.toNat_inj.1 (by omega),fun e=>by rw [e]⟩
def segB (s:List UInt8):Bool:=decide (1<=s.length) && decide (s.length<=64) && !(decide (46 ∈ s)) && !(decide (s[0]?=some 36))
theorem segB_cons (c:UInt8) (s:List UInt8):segB (c::s)=(decide (s.length+1<=64) && decide (Lib.indexByte (c::s) 46<0) && !decide ((c.toNat:Int)=36)):=by
 have h3:=u8_eq c 36 36 rfl
 have h1:=indexByte_neg 46 (c::s)
 unfold segB
 rw [Bool.eq_iff_iff]
 simp only [Bool.and_eq_true,decide_eq_true_eq,Bool.not_eq_true',decide_eq_false_iff_not,List.length_cons,List.getElem?_cons_zero,Option.some.injEq,h1,h3]
 constructor
 ·rintro ⟨⟨⟨_,a⟩,b⟩,d⟩;exact ⟨⟨a,b⟩,d⟩
 ·rintro ⟨⟨a,b⟩,d⟩;exact ⟨⟨⟨by omega,a⟩,b⟩,d⟩
theorem splitD_part (c:UInt8):∀ s:List UInt8,∀ x ∈ splitD c s,x.length<=s.length
 | [],x,h=>by simp [splitD] at h;simp [h]
 | y::l,x,h=>by
  have ih:=splitD_part c l
  simp only [splitD] at h
  split at h
  ·rcases List.mem_cons.1 h with rfl|h
   ·simp
   ·have:=ih x h;simp only [List.length_cons];omega
  ·split at h
   ·rcases List.mem_singleton.1 h with rfl;simp
   ·rename_i z r e
    rw [e] at ih
    rcases List.mem_cons.1 h with rfl|h
    ·have:=ih z (by simp);simp only [List.length_cons];omega
    ·have:=ih x (by simp [h]);simp only [List.length_cons];omega
def scanV:List (List UInt8)->Nat->Int->Option Int
 | [],_,_=>none
 | s::l,n,t=>if segB s=false\/n=16 then some t else scanV l (n+1) (t+(s.length+1))
def parseP (s:List UInt8):List (List UInt8):=match scanV (splitD 46 s) 0 0 with|none=>splitD 46 s|some _=>[]
def parseE (s:List UInt8):Int:=match scanV (splitD 46 s) 0 0 with|none=>0|some _=>20
def parseA (s:List UInt8):Int:=match scanV (splitD 46 s) 0 0 with|none=>0|some t=>t
theorem take_pad {A:List (List UInt8)} {i n:Nat} {x:List UInt8} (h:A[i]?=some x) (hi:i<n):((A.take i).map AV.str++List.replicate (n - i) (AV.str [])).set i (.str x)=(A.take (i+1)).map AV.str++List.replicate (n - (i+1)) (AV.str []):=by
 have hl:i<A.length:=(List.getElem?_eq_some_iff.1 h).1
 rw [List.set_append]
 rw [if_neg (by simp;omega)]
 have e:n - i=(n - (i+1))+1:=by omega
 rw [e,List.replicate_succ]
 have e2:i - ((A.take i).map AV.str).length=0:=by simp;omega
 rw [e2,List.set_cons_zero,List.take_add_one,h]
 simp
theorem pad_get {A:List (List UInt8)} {i n:Nat} (h:i<n) (hn:n<=A.length):((A.take i).map AV.str++List.replicate (n - i) (AV.str []))[i]?=some (.str []):=by
 rw [List.getElem?_append_right (by simp;omega)]
 have e:n - i=(n - (i+1))+1:=by omega
 have e2:i - ((A.take i).map AV.str).length=0:=by simp;omega
 rw [e,e2,List.replicate_succ];rfl
theorem splitD_single (c:UInt8) (s:List UInt8) (h:(splitD c s).length=1):splitD c s=[s]:=by
 rcases Int.lt_or_le (Lib.indexByte s c) 0 with h1|h1
 ·exact splitD_one c s h1
 ·obtain ⟨m,hm⟩:=Int.eq_ofNat_of_zero_le h1
  have:=(splitD_cut c s m hm).1
  rw [this] at h
  have h2:=splitD_ne c (s.drop (m+1))
  simp at h
  exact absurd h h2
theorem scan_step {A:List (List UInt8)} {i:Nat} {t:Int} {x:List UInt8} (hx:A[i]?=some x) (h:¬ (segB x=false\/i=16)):scanV (A.drop i) i t=scanV (A.drop (i+1)) (i+1) (t+(x.length+1)):=by
 rw [drop_get hx,scanV,if_neg h]
theorem scan_stop {A:List (List UInt8)} {i:Nat} {t:Int} {x:List UInt8} (hx:A[i]?=some x) (h:segB x=false\/i=16):scanV (A.drop i) i t=some t:=by
 rw [drop_get hx,scanV,if_pos h]
end Go.Ac

namespace Go.Ac
open Go
set_option maxRecDepth 4000
def JV.mems (v:JV):List (List UInt8×JV):=v.names.zip v.items
theorem JV.mems_len (v:JV):v.mems.length=v.mem:=by
 simp only [JV.mems,List.length_zip,JV.mem];split<;>omega
def sAnd:List UInt8:=[36,97,110,100]
def sOr:List UInt8:=[36,111,114]
def sNor:List UInt8:=[36,110,111,114]
def sEq:List UInt8:=[36,101,113]
def sNe:List UInt8:=[36,110,101]
def sGt:List UInt8:=[36,103,116]
def sGte:List UInt8:=[36,103,116,101]
def sLt:List UInt8:=[36,108,116]
def sLte:List UInt8:=[36,108,116,101]
def sIn:List UInt8:=[36,105,110]
def sNin:List UInt8:=[36,110,105,110]
def sAll:List UInt8:=[36,97,108,108]
def sExists:List UInt8:=[36,101,120,105,115,116,115]
def sType:List UInt8:=[36,116,121,112,101]
def sSize:List UInt8:=[36,115,105,122,101]
def sMod:List UInt8:=[36,109,111,100]
def sNot:List UInt8:=[36,110,111,116]
def sElem:List UInt8:=[36,101,108,101,109,77,97,116,99,104]
def joinsB (s:List UInt8):Bool:=decide (s=sAnd) || decide (s=sOr) || decide (s=sNor)
def dollarB (s:List UInt8):Bool:=decide (s[0]?=some 36)
def firstS (v:JV):List UInt8:=if v.kind=6 then (match v.mems with|[]=>[]|p::_=>p.1) else []
def isTestB (v:JV):Bool:=dollarB (firstS v)
def typeN (s:List UInt8):Int :=
 if s=[110,117,108,108] then 0 else if s=[98,111,111,108] then 2 else if s=[105,110,116] then 3 else if s=[115,116,114,105,110,103] then 4 else if s=[97,114,114,97,121] then 5 else if s=[111,98,106,101,99,116] then 6 else -1
def takesB (name:List UInt8) (x:JV):Bool :=
 if name=sIn\/name=sNin\/name=sAll then decide (x.kind=5) else if name=sExists then decide (x.kind=1\/x.kind=2) else if name=sType then decide (x.kind=4) && decide (0<=typeN x.text)
 else if name=sSize then decide (x.kind=3) && decide (0<=x.int)
 else if name=sMod then decide (x.kind=5) && (match x.items with|[a,b]=>decide (a.kind=3) && decide (b.kind=3) && !decide (a.int=0)|_=>false)
 else true
def isOp (name:List UInt8):Bool:=[sEq,sNe,sGt,sGte,sLt,sLte,sIn,sNin,sAll,sExists,sType,sSize,sMod,sNot,sElem].contains name
def foldX {α:Type} (f:α->Int->Except Int Int):List α->Int->Except Int Int
 | [],t=>.ok t
 | a::l,t=>match f a t with|.ok t'=>foldX f l t'|.error e=>.error e
mutual
def chkQ:Nat->JV->Int->Int->Except Int Int
 | 0,_,_,t=>.ok t
 | n+1,q,d,t =>
  if q.kind ≠ 6 then .error 40 else if 16<d then .error 44 else
  foldX (fun (p:List UInt8×JV) t =>
   if joinsB p.1 then (if p.2.kind ≠ 5\/p.2.items=[] then .error 42 else foldX (fun y t=>chkQ n y (d+1) t) p.2.items t)
   else if dollarB p.1 then .error 41 else if parseE p.1 ≠ 0 then .error 20
   else if isTestB p.2 then chkT n p.2 d t else if 64<=t then .error 43 else .ok (t+1)) q.mems t
def chkT:Nat->JV->Int->Int->Except Int Int
 | 0,_,_,t=>.ok t
 | n+1,v,d,t =>
  if v.kind ≠ 6\/v.mems=[] then .error 40 else if 16<d then .error 44 else
  foldX (fun (p:List UInt8×JV) t =>
   if 64<=t then .error 43 else if !isOp p.1 then .error 41 else if !takesB p.1 p.2 then .error 42
   else if p.1=sNot then chkT n p.2 (d+1) (t+1)
   else if p.1=sElem then (if isTestB p.2 && !joinsB (firstS p.2) then chkT n p.2 (d+1) (t+1) else chkQ n p.2 (d+1) (t+1))
   else .ok (t+1)) v.mems t
end
end Go.Ac

namespace Go.Ac
open Go
theorem wrap_succ {i:Nat} (h:i<2 ^ 62):IntKind.i64.wrap ((i:Int)+1)=((i+1:Nat):Int):=by rw [wrap_in (by omega)];rfl
theorem ixbB_eq (P:Program) (a:List UInt8) (c:UInt8):ixbB a c=Lib.indexByte a c:=by
 have h1:=Lib.run_indexByteString (P:=P) ⟨a.toArray⟩ (c.toNat:Int) (default:World)
 have h2:(Extern.BytealgIndexByte.indexByte #[.string ⟨a.toArray⟩,.int .u8 (c.toNat:Int)]).run P (default:World)=.ok (.int .i64 (ixbB a (UInt8.ofNat ((c.toNat:Int)).toNat))) (default:World):=by
  have:Extern.BytealgIndexByte.indexByte #[.string ⟨a.toArray⟩,.int .u8 (c.toNat:Int)]=(do let b <-Extern.Bytes.bytesOf (.string ⟨a.toArray⟩);let c <-Extern.Bytes.asByte (.int .u8 (c.toNat:Int));(match (List.range b.size).find? fun i=>b[i]! == c with|some i=>pure (goInt i)|none=>pure (goInt (-1)))):=rfl
  rw [this]
  simp only [Extern.Bytes.bytesOf,Extern.Bytes.asByte,Sem.run_bind,Sem.run_pure,Result.andThen_ok,ixbB,ixbA]
  have e0:((c.toNat:Int)).toNat.toUInt8=UInt8.ofNat ((c.toNat:Int)).toNat:=rfl
  rw [e0]
  cases (List.range (ByteArray.mk a.toArray).size).find? fun i=>(ByteArray.mk a.toArray)[i]! == UInt8.ofNat ((c.toNat:Int)).toNat<;>rfl
 rw [h2] at h1
 have e:UInt8.ofNat ((c.toNat:Int)).toNat=c:=by simp
 have e':((c.toNat:Int)).toNat.toUInt8=c:=by simp
 rw [e,e'] at h1
 simpa using h1
theorem cntB_eq (P:Program) (a:List UInt8) (c:UInt8):cntB a c=Lib.countByte a c:=by
 have h1:=Lib.run_countString (P:=P) ⟨a.toArray⟩ (c.toNat:Int) (default:World)
 have h2:(Extern.BytealgCount.count #[.string ⟨a.toArray⟩,.int .u8 (c.toNat:Int)]).run P (default:World)=.ok (.int .i64 (cntB a (UInt8.ofNat ((c.toNat:Int)).toNat))) (default:World):=by
  have:Extern.BytealgCount.count #[.string ⟨a.toArray⟩,.int .u8 (c.toNat:Int)]=(do let b <-Extern.Bytes.bytesOf (.string ⟨a.toArray⟩);let c <-Extern.Bytes.asByte (.int .u8 (c.toNat:Int));pure (goInt (b.foldl (fun n x=>if x == c then n+1 else n) (0:Nat)))):=rfl
  rw [this]
  simp [Extern.Bytes.bytesOf,Extern.Bytes.asByte,goInt,cntB]
 rw [h2] at h1
 have e:UInt8.ofNat ((c.toNat:Int)).toNat=c:=by simp
 have e':((c.toNat:Int)).toNat.toUInt8=c:=by simp
 rw [e,e'] at h1
 simpa using h1
end Go.Ac

