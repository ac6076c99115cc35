/- What is proved: regions, reckoned; lent memory; the interpreter. No condition beyond those that each theorem names. -/
import Derived.Test.YteacgfebjekllaaGreatDoorMa3
import Derived.Scope
import Derived.Recover
set_option linter.all false
namespace Go.Ac
open Go
def addF (draw:Bool) (f:Foot) (fs:List Foot):List Foot:=bif draw then f::fs else fs
abbrev Kt:=AS->List Foot->(AS->Prop)->Prop
def aCall (P:Program) (W:World) (draw:Bool) (k:Kt) (σ:AS) (fs:List Foot) (F:AS->Prop) (ex:List Nat) (f:FuncId) (As:List AV) (rt:List Nat) (dst:Option Nat):Prop :=
 ∃ u ft,(∀ o,OutOK P W o σ (.call f As rt dst)->OutOK P W o σ (.eff u ft))/\k (σ.up u) (addF draw ⟨ex++ft.rt,ft.wt,ft.rh,ft.wh⟩ fs) F
def aK (P:Program) (W:World) (draw:Bool) (k:Kt) (σ:AS) (fs:List Foot) (F:AS->Prop) (ex:List Nat):Out->Prop
 | .eff u f=>k (σ.up u) (addF draw ⟨ex++f.rt,f.wt,f.rh,f.wh⟩ fs) F
 | @Out.req p _ o=>p/\aK P W draw k σ fs F ex o
 | .ite b x y=>(b=true->aK P W draw k σ fs F ex x)/\(b=false->aK P W draw k σ fs F ex y)
 | .opt x m=>aK P W draw k σ fs F ex (m x)
 | .byt x m=>aK P W draw k σ fs F ex (m x)
 | .unb x m=>aK P W draw k σ fs F ex (m (unb x))
 | .call f As rt dst=>aCall P W draw k σ fs F ex f As rt dst
 | .fail=>False
def aB (P:Program) (W:World) (nf:AS->Option Nat->Option Nat) (draw:Bool) (k:Kt) (σ:AS) (fs:List Foot) (F:AS->Prop) (d:Nat) (want:Bool) (dst:Option Nat) (op:Op):AV->Prop
 | .val (.bool b)=>(b=want->aK P W draw k σ fs F [d] (out P σ (nf σ dst) dst op))/\(b=!want->k (σ.up ⟨dst,.val undef,[]⟩) (addF draw ⟨[d],dN dst,[],[]⟩ fs) F)
 | .val (.tuple ⟨[]⟩)=>k (σ.up ⟨dst,.val undef,[]⟩) (addF draw ⟨[d],dN dst,[],[]⟩ fs) F
 | _=>False
def aG (P:Program) (W:World) (nf:AS->Option Nat->Option Nat) (draw:Bool) (k:Kt) (σ:AS) (fs:List Foot) (F:AS->Prop) (want:Bool) (dst:Option Nat) (op:Op):Option Nat->Prop
 | some d=>aB P W nf draw k σ fs F d want dst op (tg σ.t d)
 | none=>False
def dstOf (all:List Oper) (j:Nat):Option Nat:=(all[j]?).bind (·.dst)
def aO (P:Program) (W:World) (nf:AS->Option Nat->Option Nat) (all:List Oper) (draw:Bool) (k:Kt) (σ:AS) (fs:List Foot) (F:AS->Prop) (dst:Option Nat) (op:Op):Option (Nat×Bool)->Prop
 | none=>aK P W draw k σ fs F [] (out P σ (nf σ dst) dst op)
 | some (j,want)=>aG P W nf draw k σ fs F want dst op (dstOf all j)
def aops (P:Program) (W:World) (nf:AS->Option Nat->Option Nat) (all:List Oper) (draw:Bool):List Oper->Kt
 | [],σ,fs,F=>(draw=true->ordF (ancs all []) fs.reverse 0=true)/\F σ
 | o::rest,σ,fs,F=>aO P W nf all draw (aops P W nf all draw rest) σ fs F o.dst o.op o.guard
section
variable {P:Program} {W:World} {ops:Array Oper} {draw:Bool}
def KOK (P:Program) (W:World) (ops:Array Oper) (draw:Bool) (i0:Nat) (rest:List Oper) (k:Kt):Prop :=
 ∀ (σ:AS) (fs:List Foot) (F:AS->Prop),k σ fs F->∃ (effs:List Eff) (σ':AS),effs.length=rest.length/\(∀ (i:Nat) (f:Eff),effs[i]?=some f->StepW P W ops (i0+i) f)/\ReadsAll σ.den effs/\runs σ.den effs=σ'.den ∧
  (∀ (i:Nat) (f:Eff) (o:Oper),effs[i]?=some f->rest[i]?=some o->f.dst=o.dst)/\F σ'/\(draw=true->ordF (ancs ops.toList []) (fs.reverse++effs.map footOf) 0=true)
theorem kok_cons {i0:Nat} {o:Oper} {rest:List Oper} {k:Kt} (hk:KOK P W ops draw (i0+1) rest k) {σ:AS} {fs:List Foot} {F:AS->Prop} {u:Upd} {ft:Foot} {g:Eff}
 (hs:StepW P W ops i0 g) (hr:Reads σ.den g) (hf:footOf g=ft) (hu:(σ.up u).den=σ.den.upd g) (hd:g.dst=o.dst) (h:k (σ.up u) (addF draw ft fs) F) :
 ∃ (effs:List Eff) (σ':AS),effs.length=(o::rest).length/\(∀ (i:Nat) (f:Eff),effs[i]?=some f->StepW P W ops (i0+i) f)/\ReadsAll σ.den effs/\runs σ.den effs=σ'.den ∧
  (∀ (i:Nat) (f:Eff) (o':Oper),effs[i]?=some f->(o::rest)[i]?=some o'->f.dst=o'.dst)/\F σ'/\(draw=true->ordF (ancs ops.toList []) (fs.reverse++effs.map footOf) 0=true):=by
 obtain ⟨effs,σ',h1,h2,h3,h4,h5,h6,h7⟩:=hk _ _ _ h
 refine ⟨g::effs,σ',by simp [h1],?_,⟨hr,by rw [<-hu];exact h3⟩,by simp only [runs];rw [<-hu];exact h4,?_,h6,fun hdr=>?_⟩
 ·intro i f hi
  cases i with
  | zero=>simp only [List.getElem?_cons_zero,Option.some.injEq] at hi;subst hi;exact hs
  | succ i=>simp only [List.getElem?_cons_succ] at hi;have:=h2 i f hi;rwa [show i0+(i+1)=i0+1+i by omega]
 ·intro i f o' hi ho
  cases i with
  | zero=>simp only [List.getElem?_cons_zero,Option.some.injEq] at hi ho;subst hi ho;exact hd
  | succ i=>simp only [List.getElem?_cons_succ] at hi ho;exact h5 i f o' hi ho
 ·have:=h7 hdr
  simp only [addF,hdr,cond_true,List.reverse_cons,List.append_assoc,List.singleton_append] at this
  rw [List.map_cons,hf]
  exact this
theorem aK_sound {i0 d:Nat} {o:Oper} {rest:List Oper} {k:Kt} (hk:KOK P W ops draw (i0+1) rest k) {σ:AS} {fs:List Foot} {F:AS->Prop} {ex:List Nat} (lift:Eff->Eff)
 (hl1:∀ f,LocalOKW P W o f->StepW P W ops i0 (lift f)) (hl2:∀ f,Reads σ.den f->Reads σ.den (lift f)) (hl3:∀ f,footOf (lift f)=⟨ex++(footOf f).rt,(footOf f).wt,(footOf f).rh,(footOf f).wh⟩)
 (hl4:∀ f,σ.den.upd (lift f)=σ.den.upd f) (hl5:∀ f,(lift f).dst=f.dst):∀ {x:Out},OutOK P W o σ x->aK P W draw k σ fs F ex x →
 ∃ (effs:List Eff) (σ':AS),effs.length=(o::rest).length/\(∀ (i:Nat) (f:Eff),effs[i]?=some f->StepW P W ops (i0+i) f)/\ReadsAll σ.den effs/\runs σ.den effs=σ'.den ∧
  (∀ (i:Nat) (f:Eff) (o':Oper),effs[i]?=some f->(o::rest)[i]?=some o'->f.dst=o'.dst)/\F σ'/\(draw=true->ordF (ancs ops.toList []) (fs.reverse++effs.map footOf) 0=true):=by
 have eff:∀ u ft,OutOK P W o σ (.eff u ft)->k (σ.up u) (addF draw ⟨ex++ft.rt,ft.wt,ft.rh,ft.wh⟩ fs) F->∃ (effs:List Eff) (σ':AS),effs.length=(o::rest).length/\(∀ (i:Nat) (f:Eff),effs[i]?=some f->StepW P W ops (i0+i) f)/\ReadsAll σ.den effs/\runs σ.den effs=σ'.den ∧
  (∀ (i:Nat) (f:Eff) (o':Oper),effs[i]?=some f->(o::rest)[i]?=some o'->f.dst=o'.dst)/\F σ'/\(draw=true->ordF (ancs ops.toList []) (fs.reverse++effs.map footOf) 0=true):=by
  rintro u ft ⟨g,q1,q2,q3,q4,q5⟩ h
  exact kok_cons hk (hl1 g q1) (hl2 g q2) (by rw [hl3,q3]) (by rw [hl4,q4]) (by rw [hl5,q5]) h
 intro x
 induction x with
 | eff u f=>exact fun ho h=>eff u f ho h
 | req p x ih=>exact fun ho h=>ih (ho h.1) h.2
 | ite b x y ih1 ih2 =>
  intro ho h
  cases b with
  | true=>exact ih1 (ho.1 rfl) (h.1 rfl)
  | false=>exact ih2 (ho.2 rfl) (h.2 rfl)
 | opt x m ih=>exact fun ho h=>ih x ho h
 | byt x m ih=>exact fun ho h=>ih x ho h
 | unb x m ih=>exact fun ho h=>ih (unb x) ho h
 | call f As rt dst =>
  rintro ho ⟨u,ft,h1,h2⟩
  exact eff u ft (h1 o ho) h2
 | fail=>exact fun _ h=>h.elim
theorem aO_kok {nf:AS->Option Nat->Option Nat} (hnf:∀ σ d k,nf σ d=some k->hg σ.h k=none) {o:Oper} {rest:List Oper} {i0:Nat} {k:Kt} (hk:KOK P W ops draw (i0+1) rest k) (hi:ops[i0]?=some o) {σ:AS} {fs:List Foot} {F:AS->Prop}
 (h:aO P W nf ops.toList draw k σ fs F o.dst o.op o.guard) :
 ∃ (effs:List Eff) (σ':AS),effs.length=(o::rest).length/\(∀ (i:Nat) (f:Eff),effs[i]?=some f->StepW P W ops (i0+i) f)/\ReadsAll σ.den effs/\runs σ.den effs=σ'.den ∧
  (∀ (i:Nat) (f:Eff) (o':Oper),effs[i]?=some f->(o::rest)[i]?=some o'->f.dst=o'.dst)/\F σ'/\(draw=true->ordF (ancs ops.toList []) (fs.reverse++effs.map footOf) 0=true):=by
 cases hg:o.guard with
 | none =>
  rw [hg] at h
  simp only [aO] at h
  exact aK_sound (d:=0) hk id (fun f hf=>stepW_plain hi hg hf) (fun f hf=>hf) (fun f=>by simp) (fun f=>rfl) (fun f=>rfl) (out_ok (hnf _ _)) h
 | some jw =>
  obtain ⟨j,want⟩:=jw
  rw [hg] at h
  simp only [aO] at h
  cases hj:dstOf ops.toList j with
  | none=>rw [hj] at h;exact h.elim
  | some d =>
   rw [hj] at h
   simp only [aG] at h
   have hj':(ops[j]?).bind (·.dst)=some d:=by simpa [dstOf] using hj
   unfold aB at h
   split at h
   ·rename_i b hb
    by_cases hbw:b=want
    ·subst hbw
     have h1:=h.1 rfl
     exact aK_sound (d:=d) hk (fun f=>{f with rt:=(d,.val (.bool b))::f.rt}) (fun f hf=>stepW_yes hi hg hj' hf) (fun f hf=>⟨fun p hp=>by
      rcases List.mem_cons.1 hp with rfl|hp
      ·exact hb
      ·exact hf.1 p hp,hf.2⟩) (fun f=>rfl) (fun f=>rfl) (fun f=>rfl) (out_ok (hnf _ _)) h1
    ·have hbw':b=!want:=by cases b<;>cases want<;>simp_all
     have h2:=h.2 hbw'
     refine kok_cons hk (g:={rt:=[(d,.val (.bool (!want)))],rh:=[],dst:=o.dst,v:=.val undef,wh:=[]}) (stepW_no hi hg hj') ⟨fun p hp=>by simp at hp;subst hp;rw [<-hbw'];exact hb,by simp⟩ ?_ (up_den _ _ _ rfl rfl rfl) rfl h2
     show Foot.mk _ _ _ _=Foot.mk _ _ _ _
     rw [keys_wT];rfl
   ·rename_i hb
    refine kok_cons hk (g:={rt:=[(d,.val undef)],rh:=[],dst:=o.dst,v:=.val undef,wh:=[]}) (stepW_un hi hg hj') ⟨fun p hp=>by simp at hp;subst hp;exact hb,by simp⟩ ?_ (up_den _ _ _ rfl rfl rfl) rfl h
    show Foot.mk _ _ _ _=Foot.mk _ _ _ _
    rw [keys_wT];rfl
   ·exact h.elim
theorem aops_kok {nf:AS->Option Nat->Option Nat} (hnf:∀ σ d k,nf σ d=some k->hg σ.h k=none):∀ (rest:List Oper) (i0:Nat),(∀ i,rest[i]?=ops[i0+i]?)->KOK P W ops draw i0 rest (aops P W nf ops.toList draw rest)
 | [],i0,_=>by
  intro σ fs F h
  exact ⟨[],σ,rfl,by simp,trivial,rfl,by simp,h.2,fun hd=>by simpa using h.1 hd⟩
 | o::rest,i0,hr=>by
  intro σ fs F h
  have hk:=aops_kok hnf rest (i0+1) (fun i=>by have:=hr (i+1);rw [show i0+1+i=i0+(i+1) by omega];simpa using this)
  exact aO_kok hnf hk (by have:=hr 0;simpa using this.symm) h
def dstAll (N:Nat) (ops:List Oper):Bool:=ops.all fun o=>match o.dst with|some d=>decide (d<N)|none=>true
theorem run_regN {nf:AS->Option Nat->Option Nat} (hnf:∀ σ d k,nf σ d=some k->hg σ.h k=none) {N:Nat} {k:List It} {Q:Exit->SS->Prop} {σ:AS} {id:Nat} (pr:AS->AS) (hpr:∀ σ:AS,Sub σ.den (pr σ).den) (hd:dstAll N ops.toList=true) (hdr:draw=true->P.follows .mixedOrders=true/\edgesOk ops.toList 0=true)
 (h:∀ F:AS->Prop,(∀ σ':AS,RUN P W N k Q (pr σ').den->F σ')->aops P W nf ops.toList draw ops.toList σ [] F):RUN P W N (.code (.region id ops draw)::k) Q σ.den:=by
 obtain ⟨effs,σ',h1,h2,h3,h4,h5,h6,h7⟩:=aops_kok (P:=P) (W:=W) (draw:=draw) hnf ops.toList 0 (fun i=>by simp) σ [] _ (h _ fun _ hx=>hx)
 have hl:effs.length=ops.size:=by simpa using h1
 have hdst:dstsOk N effs:=by
  intro f hf d hfd
  obtain ⟨i,hi⟩:=List.getElem?_of_mem hf
  have hlt:i<ops.size:=by have:=(List.getElem?_eq_some_iff.1 hi).1;omega
  have ho:ops.toList[i]?=some ops[i]:=by simp [hlt]
  have:=h5 i f _ hi ho
  rw [hfd] at this
  have:=List.all_eq_true.1 hd ops[i] (List.mem_of_getElem? ho)
  rename_i e
  rw [<-e] at this
  simpa using this
 intro E g hN a w hr
 have hq:∀ a' w',Rep E (runs σ.den effs) a' w'->∃ σ'',Kof P E Q k .normal σ''/\Rep E σ'' a' w':=fun a' w' hr'=>by
  rw [h4] at hr'
  exact ⟨_,h6 E g hN,hpr σ' E a' w' hr'⟩
 have hs:StepsW P W ops effs:=fun i f hi=>by have:=h2 i f hi;rwa [Nat.zero_add] at this
 cases draw with
 | false=>exact region_seq g hl hs (by rw [hN];exact hdst) h3 hr hq
 | true =>
  obtain ⟨q1,q2⟩:=hdr rfl
  refine region_any q1 g hl hs (by rw [hN];exact hdst) h3 q2 ?_ hr hq
  rw [ordOk_foot]
  simpa using h7 rfl
end
section
variable {P:Program} {W:World} {draw:Bool} {k:Kt} {σ:AS} {fs:List Foot} {F:AS->Prop} {ex rt:List Nat} {f:FuncId} {As args:List AV} {dst:Option Nat}
def namesIn (σ:AS) (gs:List (Nat×GE)):Prop:=∀ p ∈ gs,hg σ.h p.1=some p.2
theorem aCall_flat (gs:List (Nat×GE)) {r:AV} (hc:Pure P W f args r) (hf:callable P f=true) (hfz:Frzall gs) (hn:namesIn σ gs) (hle:LeL (clL gs As) args) (hcl:cloL args=true) (hfl:r.flt=true)
 (h:k (σ.up ⟨dst,r,[]⟩) (addF draw ⟨ex++rt,dN dst,gs.map (·.1),[]⟩ fs) F):aCall P W draw k σ fs F ex f As rt dst:=by
 refine ⟨⟨dst,r,[]⟩,⟨rt,dN dst,gs.map (·.1),[]⟩,?_,h⟩
 rintro o ⟨hd,xs,hrt,he⟩
 subst hd
 have he:=he hf
 refine ⟨_,ok_callFlat he hfz hle hcl hfl hc,⟨reads_rds (fun p hp=>by rw [<-evL_den];exact he.1 p hp),fun p hp=>?_⟩,?_,up_den _ _ _ rfl rfl rfl,rfl⟩
 ·obtain ⟨q,hq,rfl⟩:=List.mem_map.1 hp;exact hn q hq
 ·show Foot.mk _ _ _ _=Foot.mk _ _ _ _
  rw [keys_wT,hrt]
  simp only [keys,frzR,List.map_map];rfl
theorem aCall_pure (gs:List (Nat×GE)) {r:AV} (hc:Pure P W f args r) (hf:callable P f=true) (hfz:Frzall gs) (hon:once gs=true) (hn:namesIn σ gs) (hle:LeL (clL gs As) args) (hcl:cloL args=true)
 (h:k (σ.up ⟨dst,r,gs.map fun p=>(p.1,frzGE p.2)⟩) (addF draw ⟨ex++rt,dN dst,gs.map (·.1),gs.map (·.1)⟩ fs) F):aCall P W draw k σ fs F ex f As rt dst:=by
 refine ⟨⟨dst,r,gs.map fun p=>(p.1,frzGE p.2)⟩,⟨rt,dN dst,gs.map (·.1),gs.map (·.1)⟩,?_,h⟩
 rintro o ⟨hd,xs,hrt,he⟩
 subst hd
 have he:=he hf
 refine ⟨_,ok_call he hfz hon hle hcl hc,⟨reads_rds (fun p hp=>by rw [<-evL_den];exact he.1 p hp),fun p hp=>?_⟩,?_,up_den _ _ _ rfl rfl (by simp only [frzW,List.map_map];rfl),rfl⟩
 ·obtain ⟨q,hq,rfl⟩:=List.mem_map.1 hp;exact hn q hq
 ·show Foot.mk _ _ _ _=Foot.mk _ _ _ _
  rw [keys_wT,hrt]
  simp only [keys,frzR,frzW,List.map_map];rfl
end
end Go.Ac

namespace Go.Ac
open Go
def memN (k:Nat):List Nat->Bool
 | []=>false
 | x::l=>if k=x then true else memN k l
def nmsT:List (Nat×AV)->List Nat
 | []=>[]
 | (_,v)::l=>nms v++nmsT l
def gesN:List (Nat×GE)->List Nat
 | []=>[]
 | (_,g)::l=>geNms g++gesN l
def liveAll (h:List (Nat×GE)):List Nat->Bool
 | []=>true
 | n::l=>if (hg h n).isSome=true then liveAll h l else false
def noSld:List (Nat×GE)->Bool
 | []=>true
 | (_,.arr _ _ _ .sld)::_=>false
 | _::l=>noSld l
def ownL:List (Nat×GE)->List (Nat×GE)
 | []=>[]
 | (k,g)::l=>(k,ownGE g)::ownL l
theorem liveAll_spec {h:List (Nat×GE)}:∀ {l:List Nat},liveAll h l=true->∀ n ∈ l,(hg h n).isSome=true
 | [],_,n,hn=>by cases hn
 | x::l,hl,n,hn=>by
  simp only [liveAll] at hl
  split at hl
  ·rename_i hx
   rcases List.mem_cons.1 hn with rfl|hn
   ·exact hx
   ·exact liveAll_spec hl n hn
  ·cases hl
theorem nms_tg:∀ (l:List (Nat×AV)) (i n:Nat),n ∈ nms (tg l i)->n ∈ nmsT l
 | [],i,n,h=>by simp [tg,nms] at h
 | (k,v)::l,i,n,h=>by
  simp only [tg] at h
  simp only [nmsT,List.mem_append]
  split at h
  ·exact .inl h
  ·exact .inr (nms_tg l i n h)
theorem nms_hg:∀ (l:List (Nat×GE)) (i:Nat) (g:GE) (n:Nat),hg l i=some g->n ∈ geNms g->n ∈ gesN l
 | [],i,g,n,h,_=>by cases h
 | (k,u)::l,i,g,n,h,hn=>by
  simp only [hg] at h
  simp only [gesN,List.mem_append]
  split at h
  ·cases h;exact .inl hn
  ·exact .inr (nms_hg l i g n h hn)
theorem hg_ownL:∀ (l:List (Nat×GE)) (i:Nat),hg (ownL l) i=(hg l i).map ownGE
 | [],_=>rfl
 | (k,g)::l,i=>by
  simp only [ownL,hg]
  split
  ·rfl
  ·exact hg_ownL l i
theorem noSld_spec:∀ (l:List (Nat×GE)),noSld l=true->∀ i g,hg l i=some g->∀ e n els,g ≠ .arr e n els .sld
 | [],_,i,g,h=>by cases h
 | (k,u)::l,hl,i,g,h=>by
  intro e n els hg'
  subst hg'
  simp only [hg] at h
  split at h
  ·cases h;simp [noSld] at hl
  ·have:noSld l=true:=by
    cases u with
    | box el st=>simpa [noSld] using hl
    | map es st=>simpa [noSld] using hl
    | iter s p=>simpa [noSld] using hl
    | dead=>simpa [noSld] using hl
    | arr e' n' els' st'=>cases st'<;>first|(simpa [noSld] using hl)|(simp [noSld] at hl;done)
   exact noSld_spec l this i _ h e n els rfl
end Go.Ac

namespace Go.Ac
open Go
def rn:List (Nat×Nat)->Nat->Nat
 | [],k=>k
 | (x,y)::l,k=>if x=k then y else rn l k
mutual
def renF (φ:Nat->Nat):AV->AV
 | .gp k c=>.gp (φ k) c
 | .ge k i c=>.ge (φ k) i c
 | .gs k i len=>.gs (φ k) i len
 | .agg cs=>.agg (renFL φ cs)
 | .tup cs=>.tup (renFL φ cs)
 | .fn f xs ys=>.fn f (renFL φ xs) (renFL φ ys)
 | .ifc t a=>.ifc t (renF φ a)
 | .mp k=>.mp (φ k)
 | .top=>.top
 | .val v=>.val v
 | .str l=>.str l
 | .sl n els rest=>.sl n els rest
 | .ip el c=>.ip el c
def renFL (φ:Nat->Nat):List AV->List AV
 | []=>[]
 | a::l=>renF φ a::renFL φ l
end
section
variable {β β':Nat->Plc} {D D' I:Nat->Prop} {H:Array Obj} {φ:Nat->Nat}
mutual
theorem R.renF (K:∀ k,D k->D' (φ k)/\β' (φ k)=β k):∀ {m a v},R β D I H m a v->R β' D' I H m (renF φ a) v
 | _,_,_,.top m v=>.top m v
 | _,_,_,.val m v=>.val m v
 | _,_,_,.str m l=>.str m l
 | _,_,_,.agg h=>.agg (RL.renF K h)
 | _,_,_,.tup h=>.tup (RL.renF K h)
 | _,_,_,.sl vs h1 h2 h3 h4 h4' h5 h6 h7 h8 h9=>.sl vs h1 h2 h3 h4 h4' h5 h6 (h7.closed (fun b hb=>⟨hb,rfl⟩) rfl false) h8 h9
 | _,_,_,.sl0=>.sl0
 | _,_,_,.ip vs h1 h3 h4 h5 h6=>.ip vs h1 h3 (h4.closed (fun b hb=>⟨hb,rfl⟩) rfl false) h5 h6
 | _,_,_,.gp h=>(K _ h).2 ▸ .gp (K _ h).1
 | _,_,_,.ge h=>(K _ h).2 ▸ .ge (K _ h).1
 | _,_,_,.gs h h1 h2 h3=>.gs (K _ h).1 h1 h2 (by rw [(K _ h).2];exact h3)
 | _,_,_,.fn h1 h2=>.fn (RL.renF K h1) (RL.renF K h2)
 | _,_,_,.ifc h=>.ifc (R.renF K h)
 | _,_,_,.mp h=>(K _ h).2 ▸ .mp (K _ h).1
theorem RL.renF (K:∀ k,D k->D' (φ k)/\β' (φ k)=β k):∀ {m as vs},RL β D I H m as vs->RL β' D' I H m (renFL φ as) vs
 | _,_,_,.nil m=>.nil m
 | _,_,_,.cons h1 h2=>.cons (R.renF K h1) (RL.renF K h2)
end
end
theorem renF_flat (φ:Nat->Nat) (a:AV):(renF φ a).flat=renFL φ a.flat:=by
 cases a<;>simp [renF,AV.flat,renFL]
def renG (φ:Nat->Nat):GE->GE
 | .box el st=>.box (renF φ el) st
 | .arr e n els st=>.arr e n (renFL φ els) st
 | .map es st=>.map (es.map fun p=>(renF φ p.1,renF φ p.2)) st
 | .iter s p=>.iter s p
 | .dead=>.dead
theorem renFL_len (φ:Nat->Nat):∀ l:List AV,(renFL φ l).length=l.length
 | []=>rfl
 | a::l=>by simp [renFL,renFL_len φ l]
theorem renFL_append (φ:Nat->Nat):∀ l k:List AV,renFL φ (l++k)=renFL φ l++renFL φ k
 | [],_=>rfl
 | a::l,k=>by simp [renFL,renFL_append φ l k]
theorem renFL_mem (φ:Nat->Nat):∀ {l:List AV} {b:AV},b ∈ renFL φ l->∃ a ∈ l,b=renF φ a
 | [],_,h=>by cases h
 | a::l,b,h=>by
  simp only [renFL,List.mem_cons] at h
  rcases h with rfl|h
  ·exact ⟨a,by simp,rfl⟩
  ·obtain ⟨c,h1,h2⟩:=renFL_mem φ h;exact ⟨c,by simp [h1],h2⟩
theorem renFL_map (φ:Nat->Nat) {α:Type} (f:α->AV):∀ l:List α,renFL φ (l.map f)=l.map fun a=>renF φ (f a)
 | []=>rfl
 | a::l=>by simp [renFL,renFL_map φ f l]
theorem flats_renFL (φ:Nat->Nat):∀ l:List AV,flats (renFL φ l)=renFL φ (flats l)
 | []=>rfl
 | a::l=>by simp only [renFL,flats,renFL_append,renF_flat,flats_renFL φ l]
theorem renG_st (φ:Nat->Nat) (g:GE):(renG φ g).st=g.st:=by cases g<;>rfl
theorem renG_backed (φ:Nat->Nat) (p:Plc) (g:GE):Backed p (renG φ g) ↔ Backed p g:=by cases g<;>exact Iff.rfl
theorem renG_compat {φ:Nat->Nat} {g g':GE} (h:Compat g g'):Compat (renG φ g) (renG φ g'):=by
 cases g with
 | arr e n els st =>
  cases g' with
  | arr e' n' els' st'=>cases st<;>cases st'<;>simp only [renG,Compat,renFL_len] at h ⊢<;>exact h
  | _=>cases st<;>simp [Compat] at h
 | _=>simp [Compat] at h
theorem GEok.renG {β β':Nat->Plc} {D D' I:Nat->Prop} {H:Array Obj} {φ:Nat->Nat} (K:∀ k,D k->D' (φ k)/\β' (φ k)=β k) {k:Nat} {g:GE} (hb:β' (φ k)=β k) (h:GEok β D I H k g):GEok β' D' I H (φ k) (renG φ g):=by
 cases g with
 | box el st =>
  obtain ⟨vs,T,g1,g2,g3,g4,g5,g6⟩:=h
  refine ⟨vs,T,by rw [hb];exact g1,by rw [hb];exact g2,?_,g4,fun e=>by rw [hb];exact g5 e,fun e=>by rw [hb];exact g6 e⟩
  rw [renF_flat]
  exact g3.renF K
 | arr e n els st =>
  obtain ⟨g1,g2,g3,g4⟩:=h
  refine ⟨by rw [hb];exact g1,g2,fun b hb=>?_,?_⟩
  ·obtain ⟨a,ha,rfl⟩:=renFL_mem _ hb
   rw [renF_flat,renFL_len];exact g3 a ha
  rw [hb]
  rcases g4 with ⟨g4,rfl⟩|⟨g4,vs,g5,g6,g7,g8,g9⟩
  ·exact .inl ⟨g4,rfl⟩
  ·refine .inr ⟨g4,vs,g5,g6,by rw [renFL_len];exact g7,?_,by rw [renFL_len];exact g9.1,g9.2⟩
   rw [renFL_len,flats_renFL];exact g8.renF K
 | map es st =>
  obtain ⟨ms,c,g1,g2,g3,g4,g5⟩:=h
  refine ⟨ms,c,by rw [hb];exact g1,?_,?_,fun e=>by rw [hb];exact g4 e,fun e=>by rw [hb];exact g5 e⟩
  ·have:=g2.renF K;rw [renFL_map] at this;rw [List.map_map];exact this
  ·have:=g3.renF K;rw [renFL_map] at this;rw [List.map_map];exact this
 | iter s p=>exact ⟨by rw [hb];exact h.1,by rw [hb];exact h.2⟩
 | dead=>trivial
section
variable {β β':Nat->Plc} {D D' I:Nat->Prop} {H:Array Obj} {φ:Nat->Nat}
mutual
theorem R.unF (K:∀ k,D' k->β' k=β (φ k)):∀ {m:Bool} (a:AV) {v:Value},R β D I H m (renF φ a) v->(∀ n ∈ nms a,D' n)->R β' D' I H m a v
 | m,.top,v,_,_=>.top m v
 | m,.val u,v,h,_=>by rw [renF] at h;cases h;exact .val _ _
 | m,.str l,v,h,_=>by rw [renF] at h;cases h;exact .str _ _
 | m,.agg cs,v,h,e=>by
  rw [renF] at h
  cases h with
  | agg h=>exact .agg (RL.unF K cs h (by simpa [nms] using e))
 | m,.tup cs,v,h,e=>by
  rw [renF] at h
  cases h with
  | tup h=>exact .tup (RL.unF K cs h (by simpa [nms] using e))
 | m,.sl n els rest,v,h,_=>by
  rw [renF] at h
  cases h with
  | sl vs h1 h2 h3 h4 h4' h5 h6 h7 h8 h9=>exact .sl vs h1 h2 h3 h4 h4' h5 h6 (h7.closed (fun b hb=>⟨hb,rfl⟩) rfl false) h8 h9
  | sl0=>exact .sl0
 | m,.ip el c,v,h,_=>by
  rw [renF] at h
  cases h with
  | ip vs h1 h3 h4 h5 h6=>exact .ip vs h1 h3 (h4.closed (fun b hb=>⟨hb,rfl⟩) rfl false) h5 h6
 | m,.gp k c,v,h,e=>by
  rw [renF] at h
  have hk:=e k (by simp [nms])
  cases h with
  | gp h=>exact K k hk ▸ .gp hk
 | m,.ge k i c,v,h,e=>by
  rw [renF] at h
  have hk:=e k (by simp [nms])
  cases h with
  | ge h=>exact K k hk ▸ .ge hk
 | m,.gs k i len,v,h,e=>by
  rw [renF] at h
  have hk:=e k (by simp [nms])
  cases h with
  | gs h h1 h2 h3=>exact .gs hk h1 h2 (by rw [K k hk];exact h3)
 | m,.mp k,v,h,e=>by
  rw [renF] at h
  have hk:=e k (by simp [nms])
  cases h with
  | mp h=>exact K k hk ▸ .mp hk
 | m,.fn f xs ys,v,h,e=>by
  rw [renF] at h
  cases h with
  | fn h1 h2=>exact .fn (RL.unF K xs h1 (fun n hn=>e n (by simp [nms,hn]))) (RL.unF K ys h2 (fun n hn=>e n (by simp [nms,hn])))
 | m,.ifc t x,v,h,e=>by
  rw [renF] at h
  cases h with
  | ifc h=>exact .ifc (R.unF K x h (by simpa [nms] using e))
theorem RL.unF (K:∀ k,D' k->β' k=β (φ k)):∀ {m:Bool} (as:List AV) {vs:List Value},RL β D I H m (renFL φ as) vs->(∀ n ∈ nmsL as,D' n)->RL β' D' I H m as vs
 | m,[],vs,h,_=>by rw [renFL] at h;cases h;exact .nil _
 | m,a::as,vs,h,e=>by
  rw [renFL] at h
  cases h with
  | cons h1 h2=>exact .cons (R.unF K a h1 (fun n hn=>e n (by simp [nmsL,hn]))) (RL.unF K as h2 (fun n hn=>e n (by simp [nmsL,hn])))
end
end
theorem GEok.unG {β β':Nat->Plc} {D D' I:Nat->Prop} {H:Array Obj} {φ:Nat->Nat} (K:∀ k,D' k->β' k=β (φ k)) {k:Nat} {g:GE} (hk:D' k) (hn:∀ n ∈ geNms g,D' n) (h:GEok β D I H (φ k) (Go.Ac.renG φ g)):GEok β' D' I H k g:=by
 have hb:=K k hk
 cases g with
 | box el st =>
  obtain ⟨vs,T,g1,g2,g3,g4,g5,g6⟩:=h
  refine ⟨vs,T,by rw [hb];exact g1,by rw [hb];exact g2,?_,g4,fun e=>by rw [hb];exact g5 e,fun e=>by rw [hb];exact g6 e⟩
  rw [renF_flat] at g3
  exact g3.unF K _ (by rw [nmsL_flat];exact hn)
 | arr e n els st =>
  obtain ⟨g1,g2,g3,g4⟩:=h
  have hfl:∀ x ∈ els,x.flat.length=n:=fun x hx=>by
   have:∀ l:List AV,x ∈ l->renF φ x ∈ renFL φ l:=by
    intro l;induction l with
    | nil=>intro h;cases h
    | cons a l ih=>intro h;simp only [renFL,List.mem_cons];rcases List.mem_cons.1 h with rfl|h;exact .inl rfl;exact .inr (ih h)
   have:=g3 _ (this els hx)
   rwa [renF_flat,renFL_len] at this
  refine ⟨by rw [hb];exact g1,g2,hfl,?_⟩
  rw [hb]
  rcases g4 with ⟨g4,g5⟩|⟨g4,vs,g5,g6,g7,g8,g9⟩
  ·refine .inl ⟨g4,List.eq_nil_of_length_eq_zero ?_⟩
   rw [<-renFL_len φ els,g5];rfl
  ·rw [renFL_len] at g7 g8 g9
   rw [flats_renFL] at g8
   exact .inr ⟨g4,vs,g5,g6,g7,g8.unF K _ (by rw [nmsL_flats];exact hn),g9⟩
 | map es st =>
  obtain ⟨ms,c,g1,g2,g3,g4,g5⟩:=h
  refine ⟨ms,c,by rw [hb];exact g1,?_,?_,fun e=>by rw [hb];exact g4 e,fun e=>by rw [hb];exact g5 e⟩
  ·rw [List.map_map] at g2
   have e:es.map ((fun x=>x.1) ∘ fun p=>(renF φ p.1,renF φ p.2))=renFL φ (es.map (·.1)):=by rw [renFL_map];rfl
   rw [e] at g2
   exact g2.unF K _ (fun n hn'=>hn n (by simp only [geNms,List.mem_append];exact .inl hn'))
  ·rw [List.map_map] at g3
   have e:es.map ((fun x=>x.2) ∘ fun p=>(renF φ p.1,renF φ p.2))=renFL φ (es.map (·.2)):=by rw [renFL_map];rfl
   rw [e] at g3
   exact g3.unF K _ (fun n hn'=>hn n (by simp only [geNms,List.mem_append];exact .inr hn'))
 | iter s p=>exact ⟨by rw [hb];exact h.1,by rw [hb];exact h.2⟩
 | dead=>trivial
def nodupN:List Nat->Bool
 | []=>true
 | x::l=>if memN x l=true then false else nodupN l
theorem memN_iff (x:Nat):∀ l:List Nat,memN x l=true ↔ x ∈ l
 | []=>by simp [memN]
 | y::l=>by
  simp only [memN,List.mem_cons]
  split
  ·rename_i e;simp [e]
  ·rename_i e;rw [memN_iff x l];simp [e]
def bk (φ:Nat->Nat):List (Nat×GE)->Nat->Option Nat
 | [],_=>none
 | (k,_)::l,i=>if φ k=i then some k else bk φ l i
theorem bk_mem {φ:Nat->Nat}:∀ {l:List (Nat×GE)} {i k:Nat},bk φ l i=some k->φ k=i/\k ∈ l.map (·.1)
 | [],_,_,h=>by cases h
 | (x,g)::l,i,k,h=>by
  simp only [bk] at h
  split at h
  ·cases h;rename_i e;exact ⟨e,by simp⟩
  ·obtain ⟨h1,h2⟩:=bk_mem h;exact ⟨h1,by simp only [List.map_cons,List.mem_cons];exact .inr h2⟩
theorem bk_none {φ:Nat->Nat}:∀ {l:List (Nat×GE)} {i:Nat},i ∉ l.map (fun p=>φ p.1)->bk φ l i=none
 | [],_,_=>rfl
 | (x,g)::l,i,h=>by
  simp only [List.map_cons,List.mem_cons,not_or] at h
  simp only [bk]
  rw [if_neg (fun e=>h.1 e.symm)]
  exact bk_none h.2
theorem bk_none_of {φ:Nat->Nat}:∀ {l:List (Nat×GE)} {i:Nat},bk φ l i=none->∀ p ∈ l,φ p.1 ≠ i
 | [],_,_,p,hp=>by cases hp
 | (x,g)::l,i,h,p,hp=>by
  simp only [bk] at h
  split at h
  ·cases h
  ·rename_i e
   rcases List.mem_cons.1 hp with rfl|hp
   ·exact e
   ·exact bk_none_of h p hp
theorem hg_mem:∀ {l:List (Nat×GE)} {k:Nat} {g:GE},hg l k=some g->(k,g) ∈ l
 | [],_,_,h=>by cases h
 | (x,u)::l,k,g,h=>by
  simp only [hg] at h
  split at h
  ·rename_i e;subst e;cases h;exact List.mem_cons_self
  ·exact List.mem_cons.2 (.inr (hg_mem h))
theorem hg_some_of:∀ {l:List (Nat×GE)} {k:Nat},k ∈ l.map (·.1)->∃ g,hg l k=some g
 | [],_,h=>by simp at h
 | (x,u)::l,k,h=>by
  simp only [hg]
  by_cases e:x=k
  ·exact ⟨u,by rw [if_pos e]⟩
  ·rw [if_neg e]
   simp only [List.map_cons,List.mem_cons] at h
   exact hg_some_of (h.resolve_left (fun h=>e h.symm))
def frshW (φ:Nat->Nat) (l:List (Nat×GE)):List (Nat×Option GE):=l.map fun p=>(φ p.1,some (renG φ p.2))
def frshH (φ:Nat->Nat) (l:List (Nat×GE)) (h:Nat->Option GE) (i:Nat):Option GE :=
 match bk φ l i with
 | some k=>(hg l k).map (renG φ)
 | none=>h i
theorem hset_frsh (φ:Nat->Nat):∀ (l:List (Nat×GE)) (h:Nat->Option GE),(l.map fun p=>φ p.1).Nodup->hset h (frshW φ l)=frshH φ l h
 | [],h,_=>rfl
 | (k,g)::l,h,hn=>by
  simp only [List.map_cons,List.nodup_cons] at hn
  simp only [frshW,List.map_cons,hset]
  have:=hset_frsh φ l (fun i=>if i=φ k then some (renG φ g) else h i) hn.2
  unfold frshW at this
  rw [this]
  funext i
  simp only [frshH,bk,hg]
  by_cases e:φ k=i
  ·subst e
   rw [bk_none hn.1]
   simp
  ·rw [if_neg e]
   cases hb:bk φ l i with
   | none=>simp only;rw [if_neg (fun h=>e h.symm)]
   | some k' =>
    simp only
    have hne:¬ k=k':=fun e2=>e (by rw [e2];exact (bk_mem hb).1)
    rw [if_neg hne]
theorem inj_of_nodup {φ:Nat->Nat}:∀ {l:List (Nat×GE)},(l.map fun p=>φ p.1).Nodup->∀ k k',k ∈ l.map (·.1)->k' ∈ l.map (·.1)->φ k=φ k'->k=k'
 | [],_,k,k',h,_,_=>by simp at h
 | (x,g)::l,hn,k,k',h1,h2,e=>by
  simp only [List.map_cons,List.nodup_cons] at hn
  simp only [List.map_cons,List.mem_cons] at h1 h2
  have im:∀ q,q ∈ l.map (·.1)->φ q ∈ l.map (fun p=>φ p.1):=fun q hq=>by
   obtain ⟨p,hp,rfl⟩:=List.mem_map.1 hq
   exact List.mem_map.2 ⟨p,hp,rfl⟩
  rcases h1 with rfl|h1<;>rcases h2 with rfl|h2
  ·rfl
  ·exact absurd (e ▸ im _ h2) hn.1
  ·exact absurd (e ▸ im _ h1) hn.1
  ·exact inj_of_nodup hn.2 k k' h1 h2 e
theorem bk_of {φ:Nat->Nat} {l:List (Nat×GE)} (hn:(l.map fun p=>φ p.1).Nodup) {k:Nat} (hk:k ∈ l.map (·.1)):bk φ l (φ k)=some k:=by
 cases hb:bk φ l (φ k) with
 | none =>
  obtain ⟨p,hp,rfl⟩:=List.mem_map.1 hk
  exact absurd rfl (bk_none_of hb p hp)
 | some k' =>
  obtain ⟨h1,h2⟩:=bk_mem hb
  rw [inj_of_nodup hn _ _ h2 hk h1]
theorem not_compat_own {g g':GE} (h:g.st=.own):¬ Compat g g':=by
 cases g with
 | box el st=>exact id
 | arr e n els st =>
  simp only [GE.st] at h
  subst h
  cases g' with
  | arr e n els st=>cases st<;>exact id
  | _=>exact id
 | map es st=>exact id
 | iter s p=>exact id
 | dead=>exact id
theorem nodup_of:∀ {l:List Nat},nodupN l=true->l.Nodup
 | [],_=>List.nodup_nil
 | x::l,h=>by
  simp only [nodupN] at h
  split at h
  ·cases h
  ·rename_i hm
   exact List.nodup_cons.2 ⟨fun hx=>hm ((memN_iff x l).2 hx),nodup_of h⟩
inductive OutC where
 | ret (r:AV) (h:List (Nat×GE))
 | pan (v:AV) (h:List (Nat×GE))
def OutC.v:OutC->AV|.ret r _=>r|.pan v _=>v
def OutC.h:OutC->List (Nat×GE)|.ret _ h=>h|.pan _ h=>h
def EndIs (o:OutC) (e:Ending) (v:Value):Prop :=
 match o with
 | .ret _ _=>e=.returned v
 | .pan _ _=>e=.panicked [{v,recovered:=false}]
def lentB (β:Nat->Plc) (h:List (Nat×GE)) (b:Nat):Prop:=∃ k g,hg h k=some g/\Backed (β k) g/\g.st ≠ .frz/\(β k).b=b
def lentE (N:Nat) (w:World) (I:Nat->Prop) (β:Nat->Plc) (h:List (Nat×GE)):Env :=
 ⟨N,w,I,lentB β h,fun k=>if (hg h k).isSome=true then some (β k) else none,[]⟩
def MutC (P:Program) (W:World) (f:FuncId) (args:List AV) (h:List (Nat×GE)) (o:OutC):Prop :=
 ∀ (β:Nat->Plc) (I:Nat->Prop) (w:World) (vs:List Value),Over W w->(∀ b,lentB β h b->W.heap.size<=b)->Inv β I (hg h) w.heap->RL β (dom (hg h)) I w.heap true args vs →
  Calls P f vs.toArray w fun e w'=>∃ β' I' v,EndIs o e v/\R β' (dom (hg o.h)) I' w'.heap true o.v v/\Inv β' I' (hg o.h) w'.heap/\Fr (lentE 0 w I β h) β' I' (hg o.h) w'
def lendable:List (Nat×GE)->Bool
 | []=>true
 | (_,.dead)::l=>lendable l
 | (_,g)::l=>if g.st=.own then lendable l else false
theorem lendable_spec:∀ {l:List (Nat×GE)},lendable l=true->∀ p ∈ l,p.2.st=.own\/p.2=.dead
 | [],_,p,hp=>by cases hp
 | (k,g)::l,h,p,hp=>by
  by_cases hg:g=.dead
  ·subst hg
   simp only [lendable] at h
   rcases List.mem_cons.1 hp with rfl|hp
   ·exact .inr rfl
   ·exact lendable_spec h p hp
  ·have h':(if g.st=.own then lendable l else false)=true:=by
    cases g<;>first|exact absurd rfl hg|exact h
   split at h'
   ·rename_i e
    rcases List.mem_cons.1 hp with rfl|hp
    ·exact .inl e
    ·exact lendable_spec h' p hp
   ·cases h'
def noFrz:List (Nat×GE)->Bool
 | []=>true
 | (_,g)::l=>if g.st=.frz then false else noFrz l
theorem noFrz_spec:∀ {l:List (Nat×GE)},noFrz l=true->∀ p ∈ l,p.2.st ≠ .frz
 | [],_,p,hp=>by cases hp
 | (k,g)::l,h,p,hp=>by
  simp only [noFrz] at h
  split at h
  ·cases h
  ·rename_i e
   rcases List.mem_cons.1 hp with rfl|hp
   ·exact e
   ·exact noFrz_spec h p hp
section
variable {P:Program} {W:World} {o:Oper} {t:Nat->AV} {f:FuncId} {xs:List (Operand×AV)} {As args:List AV} {h:List (Nat×GE)} {oc:OutC} {φ:Nat->Nat}
structure Lends (φ:Nat->Nat) (h h':List (Nat×GE)) (args:List AV) (σh:Nat->Option GE):Prop where
 at_:∀ k g,hg h k=some g->σh (φ k)=some (renG φ g)
 inj:(h'.map fun p=>φ p.1).Nodup
 new:∀ p ∈ h',(hg h p.1).isSome=true\/σh (φ p.1)=none
 nfr:∀ p ∈ h',p.2.st ≠ .frz
 cls:∀ k g,hg h k=some g->∀ n ∈ geNms g,(hg h n).isSome=true
 arg:∀ n ∈ nmsL args,(hg h n).isSome=true
 lend:∀ p ∈ h,p.2.st=.own\/p.2=.dead
theorem RepAt.lent {E:Env} {σ:SS} {a:Act} {w w':World} {β β1:Nat->Plc} {I I1:Nat->Prop} {h h':List (Nat×GE)} {dst:Option Nat} {r:AV} {v:Value} (ra:RepAt E σ a w β I) (L:Lends φ h h' args σ.h)
 (hN:∀ d,dst=some d->d<E.N) (hv:R β1 (dom (hg h')) I1 w'.heap true r v) (hi:Inv β1 I1 (hg h') w'.heap) (F:Fr (lentE 0 w I (fun k=>β (φ k)) h) β1 I1 (hg h') w') :
 ∃ β2,RepAt E ⟨tset σ.t dst (renF φ r),frshH φ h' σ.h⟩ (a.put dst v) w' β2 I1/\R β2 (dom (frshH φ h' σ.h)) I1 w'.heap true (renF φ r) v:=by
 generalize hβ:(fun i=>match bk φ h' i with|some k=>β1 k|none=>β i)=β2
 have hpin:∀ k,(hg h k).isSome=true->(hg h' k).isSome=true/\β1 k=β (φ k):=fun k hk=>by
  have:=F.pin k (β (φ k)) (by show (if (hg h k).isSome=true then some (β (φ k)) else none)=_;rw [if_pos hk])
  exact ⟨this.2.1,this.2.2⟩
 have hmem:∀ k,(hg h' k).isSome=true->k ∈ h'.map (·.1):=fun k hk=>by
  cases hgk:hg h' k with
  | none=>rw [hgk] at hk;cases hk
  | some g=>exact List.mem_map.2 ⟨_,hg_mem hgk,rfl⟩
 have hnewb:∀ k,k ∈ h'.map (·.1)->β2 (φ k)=β1 k:=fun k hk=>by rw [<-hβ];simp only [bk_of L.inj hk]
 have hnoneb:∀ i,bk φ h' i=none->β2 i=β i:=fun i hi=>by rw [<-hβ];simp only [hi]
 have hold:∀ i,(σ.h i).isSome=true->β2 i=β i:=fun i his=>by
  cases hb:bk φ h' i with
  | none=>exact hnoneb i hb
  | some k =>
   obtain ⟨h1,h2⟩:=bk_mem hb
   obtain ⟨p,hp,rfl⟩:=List.mem_map.1 h2
   rcases L.new p hp with hl|hl
   ·rw [<-h1,hnewb _ h2,(hpin _ hl).2]
   ·rw [h1] at hl;rw [hl] at his;cases his
 have lentC:∀ b,lentB (fun k=>β (φ k)) h b->∃ k g,hg h k=some g/\g.st=.own/\Backed (β (φ k)) (renG φ g)/\(β (φ k)).b=b:=fun b ⟨k,g,q1,q2,q3,q4⟩=>by
  refine ⟨k,g,q1,?_,(renG_backed φ _ _).2 q2,q4⟩
  rcases L.lend _ (hg_mem q1) with e|e
  ·exact e
  ·simp only at e;subst e;exact q2.elim
 have lentNI:∀ b,lentB (fun k=>β (φ k)) h b->¬ I b:=fun b hb hI=>by
  obtain ⟨k,g,q1,q2,q3,q4⟩:=lentC b hb
  have h0:=ra.inv.ge _ _ (L.at_ k g q1)
  have hs:(renG φ g).st ≠ .frz:=by rw [renG_st,q2];simp
  subst q4
  cases hgg:renG φ g with
  | box el st=>rw [hgg] at h0 hs;obtain ⟨_,_,_,_,_,_,_,h6⟩:=h0;exact h6 hs hI
  | arr e n els st =>
   rw [hgg] at h0 hs q3
   obtain ⟨_,_,_,h4⟩:=h0
   rcases h4 with ⟨h4,_⟩|⟨_,vs,_,_,_,_,_,_,h6⟩
   ·exact q3 h4
   ·exact h6 hs hI
  | map es st=>rw [hgg] at h0 hs;obtain ⟨_,_,_,_,_,_,h6⟩:=h0;exact h6 hs hI
  | iter s p=>rw [hgg] at h0;exact h0.2 hI
  | dead=>rw [hgg] at q3;exact q3
 have lentAp:∀ b,lentB (fun k=>β (φ k)) h b->∀ i g,bk φ h' i=none->σ.h i=some g->Backed (β i) g->(β i).b ≠ b:=fun b hb i g hbi hig hbk e=>by
  obtain ⟨k,g0,q1,q2,q3,q4⟩:=lentC b hb
  have hk':=(hpin k (by rw [q1];rfl)).1
  have hne:φ k ≠ i:=fun e2=>by
   have:=bk_of L.inj (hmem k hk')
   rw [e2,hbi] at this;cases this
  have:=ra.inv.sep (φ k) i _ g hne (L.at_ k g0 q1) hig q3 hbk (by rw [q4,e])
  exact not_compat_own (by rw [renG_st];exact q2) this
 have himmB:∀ b,I b->I1 b/\w'.heap[b]?=w.heap[b]?:=fun b hb=>⟨F.i0 b hb,F.old b (ra.inv.imm b hb) (fun h=>lentNI b h hb)⟩
 have K:Keep β β2 (dom σ.h) (dom (frshH φ h' σ.h)) I I1 w.heap w'.heap:=by
  refine ⟨fun i hi'=>⟨?_,hold i hi'⟩,himmB⟩
  simp only [dom,frshH]
  cases hb:bk φ h' i with
  | none=>exact hi'
  | some k =>
   obtain ⟨h1,h2⟩:=bk_mem hb
   obtain ⟨g,hgk⟩:=hg_some_of h2
   simp [hgk]
 have Kn:∀ k,dom (hg h') k->dom (frshH φ h' σ.h) (φ k)/\β2 (φ k)=β1 k:=fun k hk=>by
  have hk2:=hmem k hk
  refine ⟨?_,hnewb k hk2⟩
  simp only [dom,frshH,bk_of L.inj hk2]
  simpa using hk
 have back:∀ i g,frshH φ h' σ.h i=some g->(bk φ h' i=none/\σ.h i=some g/\β2 i=β i)\/(∃ k g0,hg h' k=some g0/\g=renG φ g0/\i=φ k/\β2 i=β1 k):=fun i g hi'=>by
  simp only [frshH] at hi'
  cases hb:bk φ h' i with
  | none=>rw [hb] at hi';exact .inl ⟨rfl,hi',hnoneb i hb⟩
  | some k =>
   rw [hb] at hi'
   obtain ⟨h1,h2⟩:=bk_mem hb
   simp only at hi'
   cases hgk:hg h' k with
   | none=>rw [hgk] at hi';cases hi'
   | some g0=>rw [hgk] at hi';cases hi';exact .inr ⟨k,g0,hgk,rfl,h1.symm,by rw [<-h1];exact hnewb k h2⟩
 have apart:∀ k g0 i g,hg h' k=some g0->Backed (β1 k) g0->bk φ h' i=none->σ.h i=some g->Backed (β i) g->(β1 k).b ≠ (β i).b:=fun k g0 i g p1 b1 hbi p2 b2 e=>by
  have hlt:=(ra.inv.ge i g p2).lt b2
  rcases F.mt k g0 p1 b1 (L.nfr _ (hg_mem p1)) with q|q
  ·have q':w.heap.size<=(β1 k).b:=q
   omega
  ·exact lentAp _ q i g hbi p2 b2 e.symm
 have hInv:Inv β2 I1 (frshH φ h' σ.h) w'.heap:=by
  refine ⟨?_,hi.imm,?_⟩
  ·intro i g hg'
   rcases back i g hg' with ⟨q1,q2,q3⟩|⟨k,g0,q1,rfl,rfl,q3⟩
   ·have h0:=ra.inv.ge i g q2
    refine h0.keep K q3 (fun hb=>F.old _ (h0.lt hb) fun hl=>lentAp _ hl i g q1 q2 hb rfl) (fun hb=>⟨fun h1=>?_,fun h1=>F.i0 _ h1⟩)
    rcases F.i1 _ h1 (h0.lt hb) with h|h
    ·exact h
    ·exact absurd rfl (lentAp _ h i g q1 q2 hb)
   ·exact (hi.ge k g0 q1).renG Kn q3
  ·intro i i' g1 g2 hne h1 h2 b1 b2 hb
   rcases back i g1 h1 with ⟨c1,p1,q1⟩|⟨k,g0,p1,rfl,rfl,q1⟩<;>rcases back i' g2 h2 with ⟨c2,p2,q2⟩|⟨k',g0',p2,rfl,rfl,q2⟩
   ·rw [q1] at b1 hb;rw [q2] at b2 hb
    exact ra.inv.sep i i' g1 g2 hne p1 p2 b1 b2 hb
   ·rw [q1] at b1 hb;rw [q2] at b2 hb
    exact absurd hb.symm (apart k' g0' i g1 p2 ((renG_backed φ _ _).1 b2) c1 p1 b1)
   ·rw [q1] at b1 hb;rw [q2] at b2 hb
    exact absurd hb (apart k g0 i' g2 p1 ((renG_backed φ _ _).1 b1) c2 p2 b2)
   ·rw [q1] at b1 hb;rw [q2] at b2 hb
    exact renG_compat (hi.sep k k' g0 g0' (fun e=>hne (by rw [e])) p1 p2 ((renG_backed φ _ _).1 b1) ((renG_backed φ _ _).1 b2) hb)
 have lentFr:∀ b,lentB (fun k=>β (φ k)) h b->E.w0.heap.size<=b\/E.B0 b:=fun b hb=>by
  obtain ⟨k,g,q1,q2,q3,q4⟩:=lentC b hb
  have:=ra.fr.mt (φ k) _ (L.at_ k g q1) q3 (by rw [renG_st,q2];simp)
  rw [q4] at this;exact this
 have hFr:Fr E β2 I1 (frshH φ h' σ.h) w':=by
  obtain ⟨f1,f2,f3,f4,f5,f6,f7,f8,f9⟩:=ra.fr
  refine ⟨Nat.le_trans f1 F.size,F.os.trans f2,F.tape.trans f3,F.output.trans f4,fun b hb hB=>(F.old b (show b<w.heap.size by omega) fun hl=>?_).trans (f5 b hb hB),fun b hb=>F.i0 b (f6 b hb),fun b hb hlt=>?_,?_,pin_keep K f9⟩
  ·rcases lentFr b hl with h|h
   ·omega
   ·exact hB h
  ·rcases F.i1 b hb (show b<w.heap.size by omega) with h|h
   ·exact f7 b h hlt
   ·rcases lentFr b h with h|h
    ·omega
    ·exact .inr h
  ·intro i g hg' hb hs
   rcases back i g hg' with ⟨_,p1,q1⟩|⟨k,g0,p1,rfl,rfl,q1⟩
   ·rw [q1] at hb ⊢;exact f8 i g p1 hb hs
   ·rw [q1] at hb ⊢
    rcases F.mt k g0 p1 ((renG_backed φ _ _).1 hb) (by rwa [renG_st] at hs) with q|q
    ·have q':w.heap.size<=(β1 k).b:=q
     left;omega
    ·exact lentFr _ q
 exact ⟨β2,ra.step hN K (hv.renF Kn) hInv hFr,hv.renF Kn⟩
theorem Inv.lent {β:Nat->Plc} {I:Nat->Prop} {σh:Nat->Option GE} {H:Array Obj} {h h':List (Nat×GE)} (hi:Inv β I σh H) (L:Lends φ h h' args σh) (hin:∀ k k',(hg h k).isSome=true->(hg h k').isSome=true->φ k=φ k'->k=k') :
 Inv (fun k=>β (φ k)) I (hg h) H:=by
 refine ⟨fun k g hk=>?_,hi.imm,fun k k' g g' hne h1 h2 b1 b2 hb=>?_⟩
 ·exact (hi.ge (φ k) _ (L.at_ k g hk)).unG (D':=dom (hg h)) (φ:=φ) (β:=β) (fun k _=>rfl) (by simp only [dom,hk,Option.isSome_some]) (L.cls k g hk)
 ·have:=hi.sep (φ k) (φ k') _ _ (fun e=>hne (hin k k' (by rw [h1];rfl) (by rw [h2];rfl) e)) (L.at_ k g h1) (L.at_ k' g' h2) ((renG_backed φ _ _).2 b1) ((renG_backed φ _ _).2 b2) hb
  rcases L.lend _ (hg_mem h1) with q|q
  ·exact absurd this (not_compat_own (by rw [renG_st];exact q))
  ·simp only at q;subst q;exact b1.elim
theorem ok_callM {h':List (Nat×GE)} {r:AV} (he:Enters P o t xs f As) (hc:MutC P W f args h (.ret r h')) (hle:LeL As (renFL φ args))
 (hin:∀ k k',(hg h k).isSome=true->(hg h k').isSome=true->φ k=φ k'->k=k') (hno:(h'.map fun p=>φ p.1).Nodup) (hnfr:∀ p ∈ h',p.2.st ≠ .frz)
 (hcls:∀ k g,hg h k=some g->∀ n ∈ geNms g,(hg h n).isSome=true) (harg:∀ n ∈ nmsL args,(hg h n).isSome=true) (hlend:∀ p ∈ h,p.2.st=.own\/p.2=.dead) {ks:List Nat} (hks:∀ p ∈ h',(hg h p.1).isSome=true\/φ p.1 ∈ ks) :
 LocalOKW P W o {rt:=rds xs,rh:=(ks.map fun k=>(k,none))++h.map fun p=>(φ p.1,(hg h p.1).map (renG φ)),dst:=o.dst,v:=renF φ r,wh:=frshW φ h'}:=by
 intro E σ a w K Q hg' hN hr ⟨β,I,ra⟩ hk
 obtain ⟨vs,hex,hR⟩:=he.2 E σ a w β I ra fun p hp=>R_ev ra (ev_reads (he.1 p hp) (fun q hq=>hr.1 q (List.mem_flatMap.2 ⟨p,hp,hq⟩)))
 have L:Lends φ h h' args σ.h:=by
  refine ⟨fun k g hk=>?_,hno,fun p hp=>(hks p hp).imp id fun hm=>hr.2 (φ p.1,none) (List.mem_append.2 (.inl (List.mem_map.2 ⟨_,hm,rfl⟩))),hnfr,hcls,harg,hlend⟩
  have:=hr.2 (φ k,(hg h k).map (renG φ)) (List.mem_append.2 (.inr (List.mem_map.2 ⟨(k,g),hg_mem hk,rfl⟩)))
  simp only at this
  rw [this,hk];rfl
 have hI:=ra.inv.lent L hin
 have hR2:RL (fun k=>β (φ k)) (dom (hg h)) I w.heap true args vs:=(LeL.R hle hR).unF (φ:=φ) (β:=β) (fun k _=>rfl) args harg
 have hlB:∀ b,lentB (fun k=>β (φ k)) h b->W.heap.size<=b:=fun b ⟨k,g,q1,q2,q3,q4⟩=>by
  have:=ra.fr.mt (φ k) _ (L.at_ k g q1) ((renG_backed φ _ _).2 q2) (by rw [renG_st];exact q3)
  simp only at q4
  rw [q4] at this
  rcases this with h1|h1
  ·exact Nat.le_trans hg'.over.size h1
  ·exact hg'.lent b h1
 refine upon_enters hex (R:=_) (hc _ I w vs (ra.over hg') hlB hI hR2) ?_
 rintro e w' ⟨β1,I1,v,he',hv,hi1,F⟩
 have he'':e=.returned v:=he'
 subst he''
 obtain ⟨β2,r2,_⟩:=ra.lent (dst:=o.dst) L hN hv hi1 F
 refine ⟨v,rfl,hk _ _ ⟨β2,I1,?_⟩⟩
 simp only [SS.upd,hset_frsh _ _ _ hno]
 exact r2
end
end Go.Ac

namespace Go.Ac
open Go
def argT:Nat->List AV->List (Nat×AV)
 | _,[]=>[]
 | i,a::l=>(i,a)::argT (i+1) l
theorem tg_argT:∀ (l:List AV) (i j:Nat),tg (argT i l) j=if i<=j then (l[j - i]?).getD .top else .top
 | [],i,j=>by simp [argT,tg]
 | a::l,i,j=>by
  simp only [argT,tg]
  by_cases h:i=j
  ·subst h;simp
  ·rw [if_neg h,tg_argT l (i+1) j]
   by_cases h2:i<=j
   ·rw [if_pos (by omega),if_pos h2,show j - i=(j - (i+1))+1 by omega];simp
   ·rw [if_neg (by omega),if_neg h2]
section
variable {P:Program} {W:World} {N:Nat} {k:List It} {Q:Exit->SS->Prop} {σ:AS} {ops:Array Oper} {id:Nat}
end
theorem clA_nil:∀ a:AV,clA [] a=a
 | .gs k i len=>by simp [clA,lk]
 | .agg cs=>by simp only [clA];rw [clL_nil cs]
 | .tup cs=>by simp only [clA];rw [clL_nil cs]
 | .ifc t x=>by simp only [clA];rw [clA_nil x]
 | .mp _=>by simp [clA]
 | .fn f xs ys=>by simp only [clA];rw [clL_nil xs,clL_nil ys]
 | .top=>rfl
 | .val _=>rfl
 | .str _=>rfl
 | .sl _ _ _=>rfl
 | .ip _ _=>rfl
 | .gp _ _=>by simp [clA,lk]
 | .ge _ _ _=>by simp [clA]
where
 clL_nil:∀ l:List AV,clL [] l=l
 | []=>rfl
 | a::l=>by simp only [clL];rw [clA_nil a,clL_nil l]
section
variable {P:Program} {W:World} {N:Nat} {k:List It} {Q:Exit->SS->Prop} {σ:AS}
end
section
variable {P:Program} {W:World} {draw:Bool} {k:Kt} {σ:AS} {fs:List Foot} {F:AS->Prop} {ex rt:List Nat} {f:FuncId} {As args:List AV} {dst:Option Nat} {d:Nat} {op:Op}
end
end Go.Ac

namespace Go.Ac
open Go
def topN (b:Nat):List (Nat×GE)->Nat
 | []=>b
 | (k,_)::l=>topN (if b<=k then k+1 else b) l
theorem topN_ge:∀ (l:List (Nat×GE)) (b:Nat),b<=topN b l
 | [],b=>Nat.le_refl _
 | (k,g)::l,b=>by
  simp only [topN]
  refine Nat.le_trans ?_ (topN_ge l _)
  split<;>omega
theorem topN_gt:∀ (l:List (Nat×GE)) (b:Nat) (k:Nat),k ∈ l.map (·.1)->k<topN b l
 | [],_,_,h=>by simp at h
 | (q,g)::l,b,k,h=>by
  simp only [topN]
  simp only [List.map_cons,List.mem_cons] at h
  rcases h with rfl|h
  ·refine Nat.lt_of_lt_of_le ?_ (topN_ge l _)
   split<;>omega
  ·exact topN_gt l _ k h
theorem topN_none (l:List (Nat×GE)) (b:Nat):hg l (topN b l)=none:=by
 cases h:hg l (topN b l) with
 | none=>rfl
 | some g =>
  have:=topN_gt l b _ (List.mem_map.2 ⟨_,hg_mem h,rfl⟩)
  simp at this
def nfX (b:Nat) (σ:AS) (_:Option Nat):Option Nat:=some (topN b σ.h)
theorem nfX_ok (b:Nat):∀ (σ:AS) (d:Option Nat) (k:Nat),nfX b σ d=some k->hg σ.h k=none:=by
 intro σ d k h
 simp only [nfX,Option.some.injEq] at h
 subst h
 exact topN_none _ _
def killG:GE->GE
 | .arr _ _ _ .sld=>.dead
 | g=>g
def killL:List (Nat×GE)->List (Nat×GE)
 | []=>[]
 | (k,g)::l=>(k,killG g)::killL l
theorem hg_killL:∀ (l:List (Nat×GE)) (i:Nat),hg (killL l) i=(hg l i).map killG
 | [],_=>rfl
 | (k,g)::l,i=>by
  simp only [killL,hg]
  split
  ·rfl
  ·exact hg_killL l i
theorem killG_cases (g:GE):killG g=g\/killG g=.dead:=by
 cases g with
 | arr e n els st=>cases st<;>first|exact .inl rfl|exact .inr rfl
 | _=>exact .inl rfl
theorem sub_kill {σ:SS}:Sub σ ⟨σ.t,fun i=>(σ.h i).map killG⟩:=by
 rintro E a w ⟨β,I,r⟩
 have back:∀ i g,(σ.h i).map killG=some g->∃ g0,σ.h i=some g0/\g=killG g0:=fun i g hi=>by
  cases h:σ.h i with
  | none=>rw [h] at hi;cases hi
  | some g0=>rw [h] at hi;cases hi;exact ⟨g0,rfl,rfl⟩
 have K:Keep β β (dom σ.h) (dom fun i=>(σ.h i).map killG) I I w.heap w.heap:=⟨fun i hi=>⟨by simpa [dom] using hi,rfl⟩,fun b hb=>⟨hb,rfl⟩⟩
 refine ⟨β,I,fun i=>(r.tmps i).keep K,⟨fun i g hi=>?_,r.inv.imm,?_⟩,?_,r.size,r.defers⟩
 ·obtain ⟨g0,h0,rfl⟩:=back i g hi
  rcases killG_cases g0 with e|e
  ·rw [e];exact (r.inv.ge i g0 h0).keep K rfl (fun _=>rfl) (fun _=>Iff.rfl)
  ·rw [e];trivial
 ·intro i i' g g' hne h1 h2 b1 b2 hb
  obtain ⟨g0,q1,rfl⟩:=back i g h1
  obtain ⟨g0',q2,rfl⟩:=back i' g' h2
  rcases killG_cases g0 with e|e
  ·rcases killG_cases g0' with e'|e'
   ·rw [e] at b1 ⊢;rw [e'] at b2 ⊢
    exact r.inv.sep i i' g0 g0' hne q1 q2 b1 b2 hb
   ·rw [e'] at b2;exact b2.elim
  ·rw [e] at b1;exact b1.elim
 ·obtain ⟨f1,f2,f3,f4,f5,f6,f7,f8,f9⟩:=r.fr
  refine ⟨f1,f2,f3,f4,f5,f6,f7,fun i g hi hb hst=>?_,pin_keep K f9⟩
  obtain ⟨g0,q1,rfl⟩:=back i g hi
  rcases killG_cases g0 with e|e
  ·rw [e] at hb hst;exact f8 i g0 q1 hb hst
  ·rw [e] at hb;exact hb.elim
theorem noSld_kill:∀ l:List (Nat×GE),noSld (killL l)=true
 | []=>rfl
 | (k,g)::l=>by
  have:=noSld_kill l
  cases g with
  | arr e n els st=>cases st<;>simp only [killL,killG,noSld]<;>exact this
  | box el st=>simp only [killL,killG,noSld];exact this
  | map es st=>simp only [killL,killG,noSld];exact this
  | iter s p=>simp only [killL,killG,noSld];exact this
  | dead=>simp only [killL,killG,noSld];exact this
def normX (σ:AS):AS:=if noSld σ.h=true then σ else ⟨σ.t,ownL (killL σ.h)⟩
theorem sub_normX (σ:AS):Sub σ.den (normX σ).den:=by
 unfold normX
 split
 ·exact Sub.refl _
 ·have h1:Sub σ.den (AS.mk σ.t (killL σ.h)).den:=by
   have:=sub_kill (σ:=σ.den)
   have e:(AS.mk σ.t (killL σ.h)).den=⟨σ.den.t,fun i=>(σ.den.h i).map killG⟩:=by
    simp only [AS.den];congr 1;funext i;exact hg_killL σ.h i
   rw [e];exact this
  refine h1.trans ?_
  have:=sub_own (σ:=(AS.mk σ.t (killL σ.h)).den) (fun i g hi=>noSld_spec (killL σ.h) (noSld_kill _) i g hi)
  have e:(AS.mk σ.t (ownL (killL σ.h))).den=⟨(AS.mk σ.t (killL σ.h)).den.t,fun i=>((AS.mk σ.t (killL σ.h)).den.h i).map ownGE⟩:=by
   simp only [AS.den];congr 1;funext i;exact hg_ownL (killL σ.h) i
  rw [e];exact this
def subH (ns:List Nat):List (Nat×GE)->List (Nat×GE)
 | []=>[]
 | (k,g)::l=>if memN k ns=true then (k,g)::subH ns l else subH ns l
theorem hg_subH (ns:List Nat):∀ (l:List (Nat×GE)) (k:Nat),hg (subH ns l) k=if memN k ns=true then hg l k else none
 | [],k=>by simp [subH,hg]
 | (q,g)::l,k=>by
  simp only [subH]
  split
  ·rename_i hm
   simp only [hg]
   by_cases e:q=k
   ·subst e;simp [hm]
   ·rw [if_neg e,if_neg e];exact hg_subH ns l k
  ·rename_i hm
   rw [hg_subH ns l k]
   simp only [hg]
   by_cases e:q=k
   ·subst e;simp [hm]
   ·rw [if_neg e]
def reach (h:List (Nat×GE)):Nat->List Nat->List Nat->List Nat
 | 0,_,seen=>seen
 | _+1,[],seen=>seen
 | n+1,k::todo,seen =>
  if memN k seen=true then reach h n todo seen else
  match hg h k with
  | some g=>reach h n (geNms g++todo) (k::seen)
  | none=>reach h n todo seen
mutual
theorem renF_id:∀ a:AV,renF (fun k=>k) a=a
 | .gp _ _|.ge _ _ _|.gs _ _ _|.mp _|.top|.val _|.str _|.sl _ _ _|.ip _ _=>by simp [renF]
 | .agg cs=>by simp only [renF,renFL_id cs]
 | .tup cs=>by simp only [renF,renFL_id cs]
 | .fn f xs ys=>by simp only [renF,renFL_id xs,renFL_id ys]
 | .ifc t a=>by simp only [renF,renF_id a]
theorem renFL_id:∀ l:List AV,renFL (fun k=>k) l=l
 | []=>rfl
 | a::l=>by simp only [renFL,renF_id a,renFL_id l]
end
theorem renG_id (g:GE):renG (fun k=>k) g=g:=by
 cases g with
 | box el st=>simp only [renG,renF_id]
 | arr e n els st=>simp only [renG,renFL_id]
 | map es st =>
  simp only [renG,renF_id]
  congr 1
  exact (List.map_congr_left fun _ _=>rfl).trans (List.map_id es)
 | iter s p=>rfl
 | dead=>rfl
end Go.Ac

namespace Go.Ac
open Go
mutual
def AV.cst:AV->Bool
 | .top=>true
 | .val _=>true
 | .str _=>true
 | .agg cs=>cstL cs
 | .tup cs=>cstL cs
 | .ifc _ a=>a.cst
 | _=>false
def cstL:List AV->Bool
 | []=>true
 | a::l=>a.cst && cstL l
end
section
variable {β β':Nat->Plc} {D D' I I':Nat->Prop} {H H':Array Obj}
mutual
theorem R.cst {m':Bool}:∀ {m:Bool} {a:AV} {v:Value},R β D I H m a v->a.cst=true->R β' D' I' H' m' a v
 | _,_,_,.top m v,_=>.top _ _
 | _,_,_,.val m v,_=>.val _ _
 | _,_,_,.str m l,_=>.str _ _
 | _,_,_,.agg h,e=>.agg (RL.cst h (by simpa [AV.cst] using e))
 | _,_,_,.tup h,e=>.tup (RL.cst h (by simpa [AV.cst] using e))
 | _,_,_,.ifc h,e=>.ifc (R.cst h (by simpa [AV.cst] using e))
 | _,_,_,.sl vs h1 h2 h3 h4 h4' h5 h6 h7 h8 h9,e=>by simp [AV.cst] at e
 | _,_,_,.sl0,e=>by simp [AV.cst] at e
 | _,_,_,.ip vs h1 h3 h4 h5 h6,e=>by simp [AV.cst] at e
 | _,_,_,.gp h,e=>by simp [AV.cst] at e
 | _,_,_,.ge h,e=>by simp [AV.cst] at e
 | _,_,_,.gs h h1 h2 h3,e=>by simp [AV.cst] at e
 | _,_,_,.fn h1 h2,e=>by simp [AV.cst] at e
 | _,_,_,.mp h,e=>by simp [AV.cst] at e
theorem RL.cst {m':Bool}:∀ {m:Bool} {as:List AV} {vs:List Value},RL β D I H m as vs->cstL as=true->RL β' D' I' H' m' as vs
 | _,_,_,.nil m,_=>.nil _
 | _,_,_,.cons h1 h2,e=>by
  simp only [cstL,Bool.and_eq_true] at e
  exact .cons (R.cst h1 e.1) (RL.cst h2 e.2)
end
end
def CV (a:AV) (v:Value):Prop:=∀ (β:Nat->Plc) (D I:Nat->Prop) (H:Array Obj) (m:Bool),R β D I H m a v
theorem R.cv {β:Nat->Plc} {D I:Nat->Prop} {H:Array Obj} {m:Bool} {a:AV} {v:Value} (h:R β D I H m a v) (e:a.cst=true):CV a v:=fun _ _ _ _ _=>h.cst e
section
variable {P:Program} {W:World} {o:Oper} {f:FuncId} {xs:List (Operand×AV)} {As:List AV} {h h':List (Nat×GE)}
theorem upon_entersP {a:Act} {w:World} {K:Act->World->Prop} {Q:Exit->Act->World->Prop} {vs:List Value} {R:Ending->World->Prop}
 (he:(execOp a.eval o).run P w=.ok (.enter f vs.toArray) w) (hc:Calls P f vs.toArray w R) (hR:∀ e w',R e w'->∃ v,e=.panicked [{v,recovered:=false}]/\Q (.panic [{v,recovered:=false}]) a w'):o.wp P a w K Q:=by
 unfold Oper.wp
 rw [he,Oper.upon_enter]
 refine hc.mono fun e w' hr=>?_
 obtain ⟨v,rfl,hq⟩:=hR e w' hr
 exact hq
theorem lends_of {σ:SS} {hs:List (Nat×GE)} (hat:∀ k g,hg h k=some g->σ.h k=some g) (hno:(h'.map (·.1)).Nodup) (hnfr:∀ p ∈ h',p.2.st ≠ .frz)
 (hcls:∀ k g,hg h k=some g->∀ n ∈ geNms g,(hg h n).isSome=true) (harg:∀ n ∈ nmsL As,(hg h n).isSome=true) (hlend:∀ p ∈ h,p.2.st=.own\/p.2=.dead)
 (hks:∀ p ∈ h',(hg h p.1).isSome=true\/σ.h p.1=none):Lends (fun k=>k) h h' As σ.h :=
 ⟨fun k g hk=>by rw [renG_id];exact hat k g hk,hno,hks,hnfr,hcls,harg,hlend⟩
theorem ok_callP {σ:SS} {E:Env} {a:Act} {w:World} {K:Act->World->Prop} {Q:Exit->Act->World->Prop} {pv:AV} {xs:List (Operand×AV)} (he:Enters P o σ.t xs f As) (hc:MutC P W f As h (.pan pv h')) (hpv:pv.cst=true)
 (L:Lends (fun k=>k) h h' As σ.h) (hg':E.good W) (hr:Rep E σ a w) (hk:∀ w' v,Rep E ⟨σ.t,frshH (fun k=>k) h' σ.h⟩ a w'->CV pv v->Q (.panic [{v,recovered:=false}]) a w'):o.wp P a w K Q:=by
 obtain ⟨β,I,ra⟩:=hr
 obtain ⟨vs,hex,hR⟩:=he.2 E σ a w β I ra fun p hp=>R_ev ra (he.1 p hp)
 have hI:=ra.inv.lent L (fun _ _ _ _ e=>e)
 have hR2:RL β (dom (hg h)) I w.heap true As vs:=by
  have h2:RL β (dom σ.h) I w.heap true (renFL (fun k=>k) As) vs:=by rw [renFL_id];exact hR
  exact h2.unF (φ:=fun k=>k) (β:=β) (fun k _=>rfl) As L.arg
 have hlB:∀ b,lentB β h b->W.heap.size<=b:=fun b ⟨k,g,q1,q2,q3,q4⟩=>by
  have:=ra.fr.mt k _ (L.at_ k g q1) ((renG_backed _ _ _).2 q2) (by rw [renG_st];exact q3)
  rw [q4] at this
  rcases this with h1|h1
  ·exact Nat.le_trans hg'.over.size h1
  ·exact hg'.lent b h1
 refine upon_entersP hex (R:=_) (hc β I w vs (ra.over hg') hlB hI hR2) ?_
 rintro e w' ⟨β1,I1,v,he',hv,hi1,F⟩
 have he'':e=.panicked [{v,recovered:=false}]:=he'
 obtain ⟨β2,r2,_⟩:=ra.lent (dst:=none) L (by simp) hv hi1 F
 exact ⟨v,he'',hk w' v ⟨β2,I1,r2⟩ (hv.cv hpv)⟩
def ModeR:Option AV->FrameMode->Prop
 | none,u=>u=.returning
 | some pv,u=>∃ v,CV pv v/\u=.panicking [{v,recovered:=false}]
def DefC (P:Program) (W:World) (f:FuncId) (args:List AV) (h:List (Nat×GE)) (m m':Option AV) (h':List (Nat×GE)):Prop :=
 ∀ (β:Nat->Plc) (I:Nat->Prop) (w:World) (vs:List Value) (u:FrameMode),Over W w->(∀ b,lentB β h b->W.heap.size<=b)->Inv β I (hg h) w.heap->RL β (dom (hg h)) I w.heap true args vs->ModeR m u →
  CallsD P f vs.toArray u w fun e u' w'=>∃ v,e=.returned v/\ModeR m' (settle u')/\∃ β' I',Inv β' I' (hg h') w'.heap/\Fr (lentE 0 w I β h) β' I' (hg h') w'
def Held (pin:Nat->Option Plc) (As:List AV) (vs:List Value):Prop :=
 ∀ (β:Nat->Plc) (D I:Nat->Prop) (H:Array Obj),(∀ k p,pin k=some p->D k/\β k=p)->RL β D I H true As vs
def DefR (pin:Nat->Option Plc) (e:FuncId×List AV) (d:Deferred):Prop:=∃ us vs:List Value,d={target:=.fn (.func e.1) vs.toArray,args:=us.toArray}/\Held pin e.2 (us++vs)
inductive DefsR (pin:Nat->Option Plc):List (FuncId×List AV)->List Deferred->Prop where
 | nil:DefsR pin [] []
 | cons {e:FuncId×List AV} {d:Deferred} {es:List (FuncId×List AV)} {ds:List Deferred}:DefR pin e d->DefsR pin es ds->DefsR pin (e::es) (d::ds)
theorem DefR.mono {pin pin':Nat->Option Plc} {e:FuncId×List AV} {d:Deferred} (h:DefR pin e d) (hp:∀ k p,pin k=some p->pin' k=some p):DefR pin' e d:=by
 obtain ⟨us,vs,h1,h2⟩:=h
 exact ⟨us,vs,h1,fun β D I H hh=>h2 β D I H fun k p hk=>hh k p (hp k p hk)⟩
theorem DefsR.mono {pin pin':Nat->Option Plc} (hp:∀ k p,pin k=some p->pin' k=some p):∀ {es:List (FuncId×List AV)} {ds:List Deferred},DefsR pin es ds->DefsR pin' es ds
 | _,_,.nil=>.nil
 | _,_,.cons h1 h2=>.cons (h1.mono hp) (DefsR.mono hp h2)
def simpL:List AV->Bool
 | []=>true
 | .gp _ _::l=>simpL l
 | .val _::l=>simpL l
 | _=>false
theorem held_of {pin:Nat->Option Plc} {β:Nat->Plc} {D I:Nat->Prop} {H:Array Obj} (hp:∀ k,D k->pin k=some (β k)):∀ {As:List AV} {vs:List Value},simpL As=true->RL β D I H true As vs->Held pin As vs
 | _,_,_,.nil _=>fun _ _ _ _ _=>.nil _
 | .gp k c::l,_,hs,.cons h1 h2=>fun β' D' I' H' hh=>by
  have ih:=held_of hp (by simpa [simpL] using hs) h2 β' D' I' H' hh
  refine .cons ?_ ih
  cases h1 with
  | gp hd =>
   obtain ⟨q1,q2⟩:=hh k _ (hp k hd)
   rw [<-q2]
   exact .gp q1
 | .val v::l,_,hs,.cons h1 h2=>fun β' D' I' H' hh=>by
  have ih:=held_of hp (by simpa [simpL] using hs) h2 β' D' I' H' hh
  refine .cons ?_ ih
  cases h1 with
  | val=>exact .val _ _
 | .top::l,_,hs,_=>by simp [simpL] at hs
 | .str _::l,_,hs,_=>by simp [simpL] at hs
 | .agg _::l,_,hs,_=>by simp [simpL] at hs
 | .tup _::l,_,hs,_=>by simp [simpL] at hs
 | .sl _ _ _::l,_,hs,_=>by simp [simpL] at hs
 | .ip _ _::l,_,hs,_=>by simp [simpL] at hs
 | .ge _ _ _::l,_,hs,_=>by simp [simpL] at hs
 | .gs _ _ _::l,_,hs,_=>by simp [simpL] at hs
 | .fn _ _ _::l,_,hs,_=>by simp [simpL] at hs
 | .ifc _ _::l,_,hs,_=>by simp [simpL] at hs
 | .mp _::l,_,hs,_=>by simp [simpL] at hs
theorem leaves_defC {σ:SS} {E:Env} {a:Act} {w:World} {fn:Func} {tmps:Array Value} {Rf:Ending->World->Prop} {m m':Option AV} {u:FrameMode} {d:Deferred} {ds:List Deferred} (hd:DefR E.pin (f,As) d) (hf:callable P f=true)
 (hc:DefC P W f As h m m' h') (L:Lends (fun k=>k) h h' As σ.h) (hg':E.good W) (hr:Rep E σ a w) (hm:ModeR m u)
 (hk:∀ w' u',Rep E ⟨σ.t,frshH (fun k=>k) h' σ.h⟩ a w'->ModeR m' u'->Leaves P fn tmps Rf ds u' w'):Leaves P fn tmps Rf (d::ds) u w:=by
 obtain ⟨β,I,ra⟩:=hr
 obtain ⟨us,vs',rfl,hH⟩:=hd
 generalize hvs:us++vs'=vs at hH
 have hR:RL β (dom σ.h) I w.heap true As vs:=hH β _ I w.heap fun k p hk=>(ra.fr.pin k p hk).2
 have hI:=ra.inv.lent L (fun _ _ _ _ e=>e)
 have hR2:RL β (dom (hg h)) I w.heap true As vs:=by
  have h2:RL β (dom σ.h) I w.heap true (renFL (fun k=>k) As) vs:=by rw [renFL_id];exact hR
  exact h2.unF (φ:=fun k=>k) (β:=β) (fun k _=>rfl) As L.arg
 have hlB:∀ b,lentB β h b->W.heap.size<=b:=fun b ⟨k,g,q1,q2,q3,q4⟩=>by
  have:=ra.fr.mt k _ (L.at_ k g q1) ((renG_backed _ _ _).2 q2) (by rw [renG_st];exact q3)
  rw [q4] at this
  rcases this with h1|h1
  ·exact Nat.le_trans hg'.over.size h1
  ·exact hg'.lent b h1
 have hu:u ≠ .run:=by
  cases m with
  | none=>have:u=.returning:=hm;rw [this];simp
  | some pv=>obtain ⟨v,_,e⟩:=hm;rw [e];simp
 refine leaves_cons hu (f:=f) (args:=vs.toArray) ?_ ((hc β I w vs u (ra.over hg') hlB hI hR2 hm).mono ?_)
 ·have:(invoke (.fn (.func f) vs'.toArray) us.toArray).run P w=(callFunc f (us.toArray++vs'.toArray)).run P w:=rfl
  rw [this,List.append_toArray,hvs]
  exact run_callFunc hf
 ·rintro e u' w' ⟨v,rfl,hm',β1,I1,hi1,F⟩
  obtain ⟨β2,r2,_⟩:=ra.lent (dst:=none) (r:=.top) (v:=undef) L (by simp) (.top _ _) hi1 F
  exact hk w' _ ⟨β2,I1,r2⟩ hm'
end
theorem upon_mono {P:Program} {o:Oper} {a:Act} {K K':Act->World->Prop} {Q Q':Exit->Act->World->Prop} {r:Result Next} (h:o.upon P a K Q r) (hK:∀ a w,K a w->K' a w) (hQ:∀ e a w,Q e a w->Q' e a w):o.upon P a K' Q' r:=by
 unfold Oper.upon at h ⊢
 split at h
 ·exact hK _ _ h
 ·exact hK _ _ h
 ·exact hK _ _ h
 ·refine h.mono fun e w' he=>?_
  cases e with
  | returned v=>exact hK _ _ he
  | panicked c=>exact hQ _ _ _ he
  | outgrown=>obtain ⟨a',w'',q⟩:=he;exact ⟨a',w'',hQ _ _ _ q⟩
 ·exact h.mono fun v w' he=>hK _ _ he
 ·exact hQ _ _ _ h
 ·exact h.elim
theorem wpOpsS_of {P:Program} {ops:Array Oper} {Q:Exit->Act->World->Prop} {Q':Exit->Act->List Frame->World->Prop} (hQ:∀ a w,¬ Q .outgrown a w) (cs:List Frame) (hq:∀ e a w,Q e a w->Q' e a cs w):∀ (l:List Nat) (a:Act) (w:World),wpOps P ops Q l a w->wpOpsS P ops Q' l a cs w
 | [],a,w,h=>hq _ _ _ h
 | i::rest,a,w,h=>by
  simp only [wpOps] at h
  simp only [wpOpsS]
  cases ho:ops[i]? with
  | none=>rw [ho] at h;simp only at h ⊢;exact wpOpsS_of hQ cs hq rest a w h
  | some o =>
   rw [ho] at h
   simp only at h ⊢
   split
   ·rename_i hw
    rw [if_pos hw] at h
    rcases h with h|⟨_,a',w',q⟩
    ·unfold Oper.wp at h
     split
     ·rename_i w' hr;rw [hr] at h;exact h.elim
     ·exact upon_mono h (fun a' w' hh=>wpOpsS_of hQ cs hq rest a' w' hh) (fun e a' w' hh=>hq e a' w' hh)
    ·exact absurd q (hQ _ _)
   ·rename_i hw
    rw [if_neg hw] at h
    exact wpOpsS_of hQ cs hq rest _ w h
end Go.Ac

namespace Go.Ac
open Go
theorem sub_dead {σ:SS} {h2:Nat->Option GE} (hh:∀ i,h2 i=σ.h i\/((σ.h i).isSome=true/\h2 i=some .dead)):Sub σ ⟨σ.t,h2⟩:=by
 rintro E a w ⟨β,I,r⟩
 have hd:dom h2=dom σ.h:=by
  funext i
  rcases hh i with e|⟨e1,e2⟩
  ·simp [dom,e]
  ·simp [dom,e1,e2]
 refine ⟨β,I,fun i=>?_,⟨fun i g hi=>?_,r.inv.imm,?_⟩,?_,r.size,r.defers⟩
 ·show R β (dom h2) _ _ _ _ _
  rw [hd];exact r.tmps i
 ·show GEok β (dom h2) _ _ _ _
  rw [hd]
  rcases hh i with e|⟨e1,e2⟩
  ·exact r.inv.ge i g (by rw [<-e];exact hi)
  ·have:h2 i=some g:=hi
   rw [e2] at this;cases this;trivial
 ·intro i i' g g' hne h1 h2' b1 b2 hb
  rcases hh i with e|⟨e1,e2⟩
  ·rcases hh i' with e'|⟨e1',e2'⟩
   ·exact r.inv.sep i i' g g' hne (by rw [<-e];exact h1) (by rw [<-e'];exact h2') b1 b2 hb
   ·have:h2 i'=some g':=h2'
    rw [e2'] at this;cases this;exact b2.elim
  ·have:h2 i=some g:=h1
   rw [e2] at this;cases this;exact b1.elim
 ·obtain ⟨f1,f2,f3,f4,f5,f6,f7,f8,f9⟩:=r.fr
  refine ⟨f1,f2,f3,f4,f5,f6,f7,fun k g hk=>?_,fun k p hp=>?_⟩
  ·rcases hh k with e|⟨e1,e2⟩
   ·exact f8 k g (by rw [<-e];exact hk)
   ·have:h2 k=some g:=hk
    rw [e2] at this;cases this
    intro hb;exact hb.elim
  ·obtain ⟨p1,p2,p3⟩:=f9 k p hp
   have p4:dom h2 k:=by rw [hd];exact p2
   exact ⟨p1,p4,p3⟩
def killGE:GE->GE
 | .arr _ _ _ .sld=>.dead
 | .arr e n els .shr=>.arr e n els .own
 | g=>g
def deadGE:GE->GE
 | .arr _ _ _ .sld=>.dead
 | g=>g
theorem kill_eq (g:GE):killGE g=ownGE (deadGE g):=by
 cases g with
 | arr e n els st=>cases st<;>rfl
 | _=>rfl
def killS (σ:AS):AS:=⟨σ.t,σ.h.map fun p=>(p.1,killGE p.2)⟩
theorem hg_map (f:GE->GE):∀ (l:List (Nat×GE)) (k:Nat),hg (l.map fun p=>(p.1,f p.2)) k=(hg l k).map f
 | [],k=>rfl
 | (q,g)::l,k=>by
  simp only [List.map_cons,hg]
  split
  ·rfl
  ·exact hg_map f l k
theorem sub_killS (σ:AS):Sub σ.den (killS σ).den:=by
 intro E a w hr
 have h1:Sub σ.den ⟨σ.den.t,fun i=>(σ.den.h i).map deadGE⟩:=sub_dead fun i=>by
  cases h:σ.den.h i with
  | none=>exact .inl rfl
  | some g =>
   cases g with
   | arr e n els st=>cases st<;>first|exact .inl rfl|exact .inr ⟨rfl,rfl⟩
   | _=>exact .inl rfl
 have h2:=sub_own (σ:=⟨σ.den.t,fun i=>(σ.den.h i).map deadGE⟩) fun i g hi e n els hg=>by
  subst hg
  have hi:(σ.den.h i).map deadGE=some (.arr e n els .sld):=hi
  cases h:σ.den.h i with
  | none=>rw [h] at hi;cases hi
  | some g =>
   rw [h] at hi
   cases g with
   | arr e n els st=>cases st<;>cases hi
   | _=>cases hi
 have e:(killS σ).den=⟨σ.den.t,fun i=>((σ.den.h i).map deadGE).map ownGE⟩:=by
  show SS.mk _ _=SS.mk _ _
  congr 1
  funext i
  show hg (σ.h.map fun p=>(p.1,killGE p.2)) i=_
  rw [hg_map,Option.map_map]
  show Option.map killGE (hg σ.h i)=Option.map (ownGE ∘ deadGE) (hg σ.h i)
  congr 1
  funext g
  exact kill_eq g
 rw [e]
 exact h2 E a w (h1 E a w hr)
end Go.Ac

namespace Go.Ac
open Go
abbrev CallF:=FuncId->List AV->List (Nat×GE)->Nat->Option OutC
inductive XR where
 | go (σ:AS) (fs:List Foot)
 | pan (v:AV) (σ:AS)
def bigAll:List (Nat×GE)->Bool
 | []=>true
 | (k,_)::l=>if 100000<=k then bigAll l else false
theorem bigAll_spec:∀ {l:List (Nat×GE)},bigAll l=true->∀ k g,hg l k=some g->100000<=k
 | [],_,_,_,h=>by cases h
 | (q,g)::l,hb,k,g',h=>by
  simp only [bigAll] at hb
  split at hb
  ·rename_i hq
   simp only [hg] at h
   split at h
   ·rename_i e;omega
   ·exact bigAll_spec hb k g' h
  ·cases hb
def lentOf (σ:AS) (As:List AV):List (Nat×GE):=subH (reach σ.h 4000 (nmsL As) []) σ.h
def newKeys (hs:List (Nat×GE)):List (Nat×GE)->List Nat
 | []=>[]
 | (k,_)::l=>if (hg hs k).isSome=true then newKeys hs l else k::newKeys hs l
def freshKs (h:List (Nat×GE)):List Nat->Bool
 | []=>true
 | k::l=>if (hg h k).isNone=true then freshKs h l else false
def okLent (P:Program) (f:FuncId) (As:List AV) (hs:List (Nat×GE)):Bool :=
 liveAll hs (nmsL As++gesN hs) && lendable hs && bigAll hs && callable P f
def okBack (σ:AS) (hs h':List (Nat×GE)):Bool :=
 nodupN (h'.map (·.1)) && noFrz h' && freshKs σ.h (newKeys hs h')
def xBack (draw:Bool) (σ:AS) (fs:List Foot) (ex rt:List Nat) (dst:Option Nat) (hs:List (Nat×GE)):Option OutC->Option XR
 | some (.ret r h')=>if okBack σ hs h'=true then some (.go (σ.up ⟨dst,r,h'⟩) (addF draw ⟨ex++rt,dN dst,newKeys hs h'++hs.map (·.1),h'.map (·.1)⟩ fs)) else none
 | some (.pan v h')=>if (!draw && (okBack σ hs h' && v.cst))=true then some (.pan v (σ.up ⟨none,.top,h'⟩)) else none
 | none=>none
def xCallH (P:Program) (cf:CallF) (b:Nat) (draw:Bool) (σ:AS) (fs:List Foot) (ex:List Nat) (f:FuncId) (As:List AV) (rt:List Nat) (dst:Option Nat) (hs:List (Nat×GE)):Option XR :=
 if okLent P f As hs=true then xBack draw σ fs ex rt dst hs (cf f As hs (topN b σ.h)) else none
def xK (P:Program) (cf:CallF) (b:Nat) (draw:Bool) (σ:AS) (fs:List Foot) (ex:List Nat):Out->Option XR
 | .eff u f=>some (.go (σ.up u) (addF draw ⟨ex++f.rt,f.wt,f.rh,f.wh⟩ fs))
 | @Out.req _ d o=>match d with
  | .isTrue _=>xK P cf b draw σ fs ex o
  | .isFalse _=>none
 | .ite c x y=>match c with
  | true=>xK P cf b draw σ fs ex x
  | false=>xK P cf b draw σ fs ex y
 | .opt x m=>xK P cf b draw σ fs ex (m x)
 | .byt x m=>xK P cf b draw σ fs ex (m x)
 | .unb x m=>xK P cf b draw σ fs ex (m (unb x))
 | .call f As rt dst=>xCallH P cf b draw σ fs ex f As rt dst (lentOf σ As)
 | .fail=>none
def panOf:Op->Option Operand
 | .panic x=>some x
 | _=>none
def xPan (draw:Bool) (σ:AS):AV->Option XR
 | .ifc t a=>if (!draw && a.cst)=true then some (.pan (.ifc t a) σ) else none
 | _=>none
def xO (P:Program) (cf:CallF) (b:Nat) (all:List Oper) (draw:Bool) (σ:AS) (fs:List Foot) (dst:Option Nat) (op:Op):Option (Nat×Bool)->Option XR
 | none=>match panOf op with
  | some x=>xPan draw σ (evL σ x)
  | none=>xK P cf b draw σ fs [] (out P σ (nfX b σ dst) dst op)
 | some (j,want) =>
  match dstOf all j with
  | some d =>
   match tg σ.t d with
   | .val (.bool c)=>if c=want then xK P cf b draw σ fs [d] (out P σ (nfX b σ dst) dst op) else some (.go (σ.up ⟨dst,.val undef,[]⟩) (addF draw ⟨[d],dN dst,[],[]⟩ fs))
   | .val (.tuple ⟨[]⟩)=>some (.go (σ.up ⟨dst,.val undef,[]⟩) (addF draw ⟨[d],dN dst,[],[]⟩ fs))
   | _=>none
  | none=>none
def xOk (P:Program) (cf:CallF) (b:Nat) (all:List Oper) (draw:Bool) (σ:AS) (fs:List Foot) (dst:Option Nat) (op:Op) (gd:Option (Nat×Bool)):Option XR :=
 match xO P cf b all draw σ fs dst op gd with
 | some r=>some r
 | none=>if draw=true then none else xO P cf b all draw (killS σ) fs dst op gd
theorem xOk_true {P:Program} {cf:CallF} {b:Nat} {all:List Oper} {σ:AS} {fs:List Foot} {dst:Option Nat} {op:Op} {gd:Option (Nat×Bool)}:xOk P cf b all true σ fs dst op gd=xO P cf b all true σ fs dst op gd:=by
 unfold xOk
 cases xO P cf b all true σ fs dst op gd<;>rfl
theorem xOk_cases {P:Program} {cf:CallF} {b:Nat} {all:List Oper} {draw:Bool} {σ:AS} {fs:List Foot} {dst:Option Nat} {op:Op} {gd:Option (Nat×Bool)} {r:XR} (h:xOk P cf b all draw σ fs dst op gd=some r):∃ τ,Sub σ.den τ.den/\xO P cf b all draw τ fs dst op gd=some r:=by
 unfold xOk at h
 split at h
 ·rename_i r' hr;cases h;exact ⟨σ,fun _ _ _ q=>q,hr⟩
 ·split at h
  ·cases h
  ·exact ⟨_,sub_killS σ,h⟩
def xops (P:Program) (cf:CallF) (b:Nat) (all:List Oper) (draw:Bool):List Oper->AS->List Foot->Option XR
 | [],σ,fs=>some (.go σ fs)
 | o::rest,σ,fs =>
  match xOk P cf b all draw σ fs o.dst o.op o.guard with
  | some (.go σ1 fs1)=>xops P cf b all draw rest σ1 fs1
  | r=>r
def CFok (P:Program) (W:World) (cf:CallF):Prop :=
 ∀ f As h b o,cf f As h b=some o->callable P f=true->bigAll h=true->MutC P W f As h o
theorem newKeys_spec (hs:List (Nat×GE)):∀ (l:List (Nat×GE)),∀ p ∈ l,(hg hs p.1).isSome=true\/p.1 ∈ newKeys hs l
 | [],_,h=>by cases h
 | (k,g)::l,p,h=>by
  simp only [newKeys]
  rcases List.mem_cons.1 h with rfl|h
  ·split
   ·rename_i e;exact .inl e
   ·exact .inr (by simp)
  ·rcases newKeys_spec hs l p h with q|q
   ·exact .inl q
   ·right;split
    ·exact q
    ·simp [q]
theorem freshKs_spec {h:List (Nat×GE)}:∀ {l:List Nat},freshKs h l=true->∀ k ∈ l,hg h k=none
 | [],_,k,hk=>by cases hk
 | q::l,hf,k,hk=>by
  simp only [freshKs] at hf
  split at hf
  ·rename_i e
   rcases List.mem_cons.1 hk with rfl|hk
   ·simpa using e
   ·exact freshKs_spec hf k hk
  ·cases hf
theorem map_id1 {α:Type} (l:List (Nat×α)):(l.map fun p=>(fun k:Nat=>k) p.1)=l.map (·.1):=rfl
section
variable {P:Program} {W:World} {cf:CallF} {b:Nat} {draw:Bool} {k:Kt} {F:AS->Prop}
theorem xBack_ok (hcf:CFok P W cf) {σ σ1:AS} {fs fs1:List Foot} {ex rt ns:List Nat} {f:FuncId} {As:List AV} {dst:Option Nat} (hl:okLent P f As (subH ns σ.h)=true)
 (hx:xBack draw σ fs ex rt dst (subH ns σ.h) (cf f As (subH ns σ.h) (topN b σ.h))=some (.go σ1 fs1)) (hk:k σ1 fs1 F):aCall P W draw k σ fs F ex f As rt dst:=by
 simp only [okLent,Bool.and_eq_true] at hl
 obtain ⟨⟨⟨l1,l2⟩,l3⟩,l4⟩:=hl
 cases hc:cf f As (subH ns σ.h) (topN b σ.h) with
 | none=>rw [hc] at hx;cases hx
 | some q=>cases q with
 | pan v h'=>rw [hc] at hx;simp only [xBack] at hx;split at hx<;>cases hx
 | ret r h' =>
  rw [hc] at hx
  simp only [xBack] at hx
  split at hx
  case isFalse=>cases hx
  rename_i hb
  cases hx
  simp only [okBack,Bool.and_eq_true] at hb
  obtain ⟨⟨b1,b2⟩,b3⟩:=hb
  have hM:=hcf _ _ _ _ _ hc l4 l3
  refine ⟨⟨dst,r,h'⟩,⟨rt,dN dst,newKeys (subH ns σ.h) h'++(subH ns σ.h).map (·.1),h'.map (·.1)⟩,?_,hk⟩
  rintro o ⟨hd,xs,hrt,he⟩
  subst hd
  have he:=he l4
  have hlive:=liveAll_spec l1
  have hmem:∀ p ∈ subH ns σ.h,∃ g,hg (subH ns σ.h) p.1=some g/\hg σ.h p.1=some g:=fun p hp=>by
   obtain ⟨g,hgk⟩:=hg_some_of (List.mem_map.2 ⟨p,hp,rfl⟩)
   refine ⟨g,hgk,?_⟩
   rw [hg_subH] at hgk
   split at hgk
   ·exact hgk
   ·cases hgk
  refine ⟨_,ok_callM (φ:=fun k=>k) (ks:=newKeys (subH ns σ.h) h') he hM (by rw [renFL_id];exact .refl _) (fun _ _ _ _ e=>e) (by rw [map_id1];exact nodup_of b1) (noFrz_spec b2)
   (fun k g hk n hn=>hlive n (List.mem_append.2 (.inr (nms_hg _ k g n hk hn)))) (fun n hn=>hlive n (List.mem_append.2 (.inl hn))) (lendable_spec l2) (newKeys_spec _ _),
   ⟨reads_rds (fun p hp=>by rw [<-evL_den];exact he.1 p hp),fun p hp=>?_⟩,?_,up_den _ _ _ rfl (renF_id r) (by simp only [frshW,renG_id]),rfl⟩
  ·rcases List.mem_append.1 hp with hp|hp
   ·obtain ⟨q,hq,rfl⟩:=List.mem_map.1 hp
    exact freshKs_spec b3 q hq
   ·obtain ⟨q,hq,rfl⟩:=List.mem_map.1 hp
    obtain ⟨g,g1,g2⟩:=hmem q hq
    show hg σ.h q.1=_
    rw [g1,g2]
    simp only [Option.map_some,renG_id]
  ·show Foot.mk _ _ _ _=Foot.mk _ _ _ _
   rw [keys_wT,hrt]
   simp only [keys,frshW,List.map_append,List.map_map]
   congr 1
   congr 1
   exact (List.map_congr_left fun _ _=>rfl).trans (List.map_id _)
theorem xK_ok (hcf:CFok P W cf) {σ σ1:AS} {fs fs1:List Foot} {ex:List Nat}:∀ {x:Out},xK P cf b draw σ fs ex x=some (.go σ1 fs1)->k σ1 fs1 F->aK P W draw k σ fs F ex x:=by
 intro x
 induction x with
 | eff u f=>intro h hk;simp only [xK,Option.some.injEq,XR.go.injEq] at h;obtain ⟨rfl,rfl⟩:=h;exact hk
 | req p x ih =>
  rename_i inst
  intro h hk
  simp only [xK] at h
  split at h
  ·rename_i hp;exact ⟨hp,ih h hk⟩
  ·cases h
 | ite c x y ih1 ih2 =>
  intro h hk
  cases c with
  | true=>exact ⟨fun _=>ih1 h hk,fun e=>by cases e⟩
  | false=>exact ⟨(fun e=>by cases e),fun _=>ih2 h hk⟩
 | opt x m ih=>exact fun h hk=>ih x h hk
 | byt x m ih=>exact fun h hk=>ih x h hk
 | unb x m ih=>exact fun h hk=>ih (unb x) h hk
 | call f As rt dst =>
  intro h hk
  simp only [xK,xCallH] at h
  split at h
  ·rename_i hl;exact xBack_ok hcf hl h hk
  ·cases h
 | fail=>intro h;cases h
theorem xO_ok (hcf:CFok P W cf) {all:List Oper} {σ σ2:AS} {fs fs2:List Foot} {dst:Option Nat} {op:Op} {gd:Option (Nat×Bool)} (h1:xO P cf b all draw σ fs dst op gd=some (.go σ2 fs2)) (ih:k σ2 fs2 F) :
 aO P W (nfX b) all draw k σ fs F dst op gd:=by
 cases gd with
 | none =>
  simp only [xO] at h1
  split at h1
  ·unfold xPan at h1
   split at h1
   ·split at h1<;>cases h1
   ·cases h1
  ·exact xK_ok hcf h1 ih
 | some jw =>
  obtain ⟨j,want⟩:=jw
  simp only [xO] at h1
  simp only [aO]
  split at h1
  case h_2=>cases h1
  rename_i d hd
  rw [hd]
  simp only [aG]
  split at h1
  ·rename_i c hc
   rw [hc]
   split at h1
   ·rename_i hcw
    subst hcw
    exact ⟨fun _=>xK_ok hcf h1 ih,fun e=>by cases c<;>simp at e⟩
   ·rename_i hcw
    simp only [Option.some.injEq,XR.go.injEq] at h1
    obtain ⟨rfl,rfl⟩:=h1
    exact ⟨fun e=>absurd e hcw,fun _=>ih⟩
  ·rename_i hc
   rw [hc]
   simp only [Option.some.injEq,XR.go.injEq] at h1
   obtain ⟨rfl,rfl⟩:=h1
   exact ih
  ·cases h1
theorem xops_ok (hcf:CFok P W cf) {all:List Oper}:∀ (rest:List Oper) {σ σ1:AS} {fs fs1:List Foot},xops P cf b all true rest σ fs=some (.go σ1 fs1)->ordF (ancs all []) fs1.reverse 0=true->F σ1 →
 aops P W (nfX b) all true rest σ fs F
 | [],σ,σ1,fs,fs1,h,ho,hF=>by simp only [xops,Option.some.injEq,XR.go.injEq] at h;obtain ⟨rfl,rfl⟩:=h;exact ⟨fun _=>ho,hF⟩
 | o::rest,σ,σ1,fs,fs1,h,ho,hF=>by
  simp only [xops,xOk_true] at h
  split at h
  ·rename_i σ2 fs2 h1
   exact xO_ok hcf h1 (xops_ok hcf rest h ho hF)
  ·rename_i hne
   exact absurd h (hne σ1 fs1)
end
section
variable {P:Program} {W:World} {cf:CallF} {b N:Nat} {draw:Bool} {ops:Array Oper} {E:Env} {Q:Exit->Act->World->Prop}
theorem op_go (hcf:CFok P W cf) {i:Nat} {o:Oper} (hi:ops[i]?=some o) {σ σ1:AS} {fs fs1:List Foot} (h:xO P cf b ops.toList false σ fs o.dst o.op o.guard=some (.go σ1 fs1)) (g:E.good W)
 (hd:∀ d,o.dst=some d->d<E.N) {K:Act->World->Prop} {a:Act} {w:World} (hr:Rep E σ.den a w) (hk:∀ a' w',Rep E σ1.den a' w'->K a' w'):wpOp P ops Q i K a w:=by
 obtain ⟨effs,σ',h1,h2,h3,h4,h5,h6,h7⟩:=aO_kok (P:=P) (W:=W) (ops:=ops) (draw:=false) (nf:=nfX b) (nfX_ok b) (o:=o) (rest:=[]) (i0:=i) (k:=fun τ _ F=>F τ) (fun σ fs F hF=>⟨[],σ,rfl,by simp,trivial,rfl,by simp,hF,by simp⟩) hi (F:=fun τ=>τ=σ1) (xO_ok hcf h rfl)
 match effs,h1 with
 | [f],_ =>
  have hs:=h2 0 f rfl
  rw [Nat.add_zero] at hs
  refine hs E σ.den a w K Q g (fun d hfd=>hd d ?_) h3.1 hr fun a' w' hr'=>hk a' w' ?_
  ·have:=h5 0 f o rfl rfl;rw [<-this];exact hfd
  ·have e:σ.den.upd f=σ1.den:=by rw [<-h6,<-h4];rfl
   rw [<-e];exact hr'
theorem xK_pan (hcf:CFok P W cf) {o:Oper} {σ σ1:AS} {fs:List Foot} {ex:List Nat} {v:AV} (g:E.good W) {K:Act->World->Prop} {a:Act} {w:World} (hr:Rep E σ.den a w)
 (hk:∀ w' u,Rep E σ1.den a w'->CV v u->Q (.panic [{v:=u,recovered:=false}]) a w'):∀ {x:Out},OutOK P W o σ x->xK P cf b draw σ fs ex x=some (.pan v σ1)->o.wp P a w K Q:=by
 intro x
 induction x with
 | eff u f=>intro _ h;cases h
 | req p x ih =>
  rename_i inst
  intro ho h
  simp only [xK] at h
  split at h
  ·rename_i hp;exact ih (ho hp) h
  ·cases h
 | ite c x y ih1 ih2 =>
  intro ho h
  cases c with
  | true=>exact ih1 (ho.1 rfl) h
  | false=>exact ih2 (ho.2 rfl) h
 | opt x m ih=>exact fun ho h=>ih x ho h
 | byt x m ih=>exact fun ho h=>ih x ho h
 | unb x m ih=>exact fun ho h=>ih (unb x) ho h
 | call f As rt dst =>
  rintro ⟨hd,xs,hrt,he⟩ h
  simp only [xK,xCallH] at h
  split at h
  case isFalse=>cases h
  rename_i hl
  simp only [okLent,Bool.and_eq_true] at hl
  obtain ⟨⟨⟨l1,l2⟩,l3⟩,l4⟩:=hl
  cases hc:cf f As (lentOf σ As) (topN b σ.h) with
  | none=>rw [hc] at h;cases h
  | some q =>
   cases q with
   | ret r h'=>rw [hc] at h;simp only [xBack] at h;split at h<;>cases h
   | pan v' h' =>
    rw [hc] at h
    simp only [xBack] at h
    split at h
    case isFalse=>cases h
    rename_i hb
    simp only [Option.some.injEq,XR.pan.injEq] at h
    obtain ⟨rfl,rfl⟩:=h
    simp only [okBack,Bool.and_eq_true] at hb
    obtain ⟨_,⟨⟨b1,b2⟩,b3⟩,b4⟩:=hb
    have hM:=hcf _ _ _ _ _ hc l4 l3
    have hlive:=liveAll_spec l1
    have L:Lends (fun k=>k) (lentOf σ As) h' As σ.den.h:=by
     refine lends_of (hs:=lentOf σ As) (fun k g hk=>?_) (nodup_of b1) (noFrz_spec b2) (fun k g hk n hn=>hlive n (List.mem_append.2 (.inr (nms_hg _ k g n hk hn)))) (fun n hn=>hlive n (List.mem_append.2 (.inl hn))) (lendable_spec l2) fun p hp=>?_
     ·unfold lentOf at hk
      rw [hg_subH] at hk
      split at hk
      ·exact hk
      ·cases hk
     ·rcases newKeys_spec (lentOf σ As) h' p hp with q|q
      ·exact .inl q
      ·exact .inr (freshKs_spec b3 _ q)
    refine ok_callP (he l4) hM b4 L g hr fun w' u hr' hu=>hk w' u ?_ hu
    have e:(σ.up ⟨none,.top,h'⟩).den=⟨σ.den.t,frshH (fun k=>k) h' σ.den.h⟩:=by
     rw [up_den σ ⟨none,.top,h'⟩ {dst:=none,v:=.top,wh:=frshW (fun k=>k) h'} rfl rfl (by simp only [frshW,renG_id])]
     simp only [SS.upd,tset]
     rw [hset_frsh _ _ _ (nodup_of b1)]
    rw [e];exact hr'
 | fail=>intro _ h;cases h
theorem op_pan (hcf:CFok P W cf) {i:Nat} {o:Oper} (hi:ops[i]?=some o) {σ σ1:AS} {fs:List Foot} {v:AV} (h:xO P cf b ops.toList draw σ fs o.dst o.op o.guard=some (.pan v σ1)) (g:E.good W)
 {K:Act->World->Prop} {a:Act} {w:World} (hr:Rep E σ.den a w) (hk:∀ w' u,Rep E σ1.den a w'->CV v u->Q (.panic [{v:=u,recovered:=false}]) a w'):wpOp P ops Q i K a w:=by
 unfold wpOp
 rw [hi]
 simp only
 cases hgd:o.guard with
 | none =>
  rw [hgd] at h
  have hw:Region.wanted o (yielded ops a.tmps)=true:=by simp only [Region.wanted,hgd]
  rw [if_pos hw]
  left
  simp only [xO] at h
  split at h
  ·rename_i x hx
   unfold xPan at h
   split at h
   case h_2=>cases h
   rename_i t c hev
   split at h
   case isFalse=>cases h
   rename_i hc
   simp only [Option.some.injEq,XR.pan.injEq] at h
   obtain ⟨rfl,rfl⟩:=h
   simp only [Bool.and_eq_true] at hc
   have ho:o.op=.panic x:=by
    unfold panOf at hx
    split at hx
    ·rename_i y hy;cases hx;exact hy
    ·cases hx
   obtain ⟨β,I,r⟩:=id hr
   have hv:=R_ev r ((evL_den σ x).trans hev)
   obtain ⟨u,hu,_⟩:=id hv.ifc_inv
   have hcv:CV (.ifc t c) (a.eval x):=hv.cv (by simpa [AV.cst] using hc.2)
   rw [hu] at hcv
   unfold Oper.wp
   have hrun:(execOp a.eval o).run P w=.halt (.panic (.iface t u)) w:=by
    simp only [execOp,ho,hu]
    rw [Sem.run_bind]
    rfl
   rw [hrun,Oper.upon_panic]
   exact hk w _ hr hcv
  ·exact xK_pan hcf g hr hk (out_ok (nfX_ok b _ _)) h
 | some jw =>
  obtain ⟨j,want⟩:=jw
  rw [hgd] at h
  simp only [xO] at h
  split at h
  case h_2=>cases h
  rename_i d hd
  split at h
  ·rename_i c hc
   split at h
   ·rename_i hcw
    subst hcw
    have hj':(ops[j]?).bind (·.dst)=some d:=by simpa [dstOf] using hd
    have hy:=yielded_of hj' hr (show σ.den.t d=_ from hc)
    have hw:Region.wanted o (yielded ops a.tmps)=true:=by simp only [Region.wanted,hgd,hy,beq_self_eq_true]
    rw [if_pos hw]
    left
    exact xK_pan hcf g hr hk (out_ok (nfX_ok b _ _)) h
   ·cases h
  ·cases h
  ·cases h
theorem xops_pan (hcf:CFok P W cf):∀ (rest:List Oper) (i0:Nat) {σ σ1:AS} {fs:List Foot} {v:AV},(∀ i,rest[i]?=ops[i0+i]?)->xops P cf b ops.toList false rest σ fs=some (.pan v σ1)->E.good W->dstAll E.N rest=true->∀ (a:Act) (w:World),Rep E σ.den a w →
 (∀ a' w' u,Rep E σ1.den a' w'->CV v u->Q (.panic [{v:=u,recovered:=false}]) a' w')->wpOps P ops Q ((List.range rest.length).map (i0+·)) a w
 | [],i0,σ,σ1,fs,v,hr,h,g,hd,a,w,hrep,hk=>by simp [xops] at h
 | o::rest,i0,σ,σ1,fs,v,hr,h,g,hd,a,w,hrep,hk=>by
  have hi:ops[i0]?=some o:=by have:=hr 0;simpa using this.symm
  have hmap:(List.range rest.length).map ((i0+·) ∘ Nat.succ)=(List.range rest.length).map (i0+1+·):=by
   apply List.map_congr_left;intro x _;simp only [Function.comp];omega
  rw [List.length_cons,List.range_succ_eq_map,List.map_cons,List.map_map,wpOps_cons,hmap,Nat.add_zero]
  simp only [dstAll,List.all_cons,Bool.and_eq_true] at hd
  simp only [xops] at h
  split at h
  ·rename_i σ2 fs2 h1
   obtain ⟨τ,hτ,h1⟩:=xOk_cases h1
   refine op_go hcf hi h1 g (fun d hod=>?_) (hτ _ _ _ hrep) fun a' w' hr'=>?_
   ·have:=hd.1;rw [hod] at this;simpa using this
   ·exact xops_pan hcf rest (i0+1) (fun i=>by have:=hr (i+1);rw [show i0+1+i=i0+(i+1) by omega];simpa using this) h g hd.2 a' w' hr' hk
  ·obtain ⟨τ,hτ,h⟩:=xOk_cases h
   exact op_pan hcf hi h g (hτ _ _ _ hrep) fun w' u=>hk a w' u
theorem xops_go (hcf:CFok P W cf):∀ (rest:List Oper) (i0:Nat) {σ σ1:AS} {fs fs1:List Foot},(∀ i,rest[i]?=ops[i0+i]?)->xops P cf b ops.toList false rest σ fs=some (.go σ1 fs1)->E.good W->dstAll E.N rest=true->∀ (a:Act) (w:World),Rep E σ.den a w →
 (∀ a' w',Rep E σ1.den a' w'->Q .normal a' w')->wpOps P ops Q ((List.range rest.length).map (i0+·)) a w
 | [],i0,σ,σ1,fs,fs1,hr,h,g,hd,a,w,hrep,hk=>by
  simp only [xops,Option.some.injEq,XR.go.injEq] at h
  obtain ⟨rfl,rfl⟩:=h
  exact hk a w hrep
 | o::rest,i0,σ,σ1,fs,fs1,hr,h,g,hd,a,w,hrep,hk=>by
  have hi:ops[i0]?=some o:=by have:=hr 0;simpa using this.symm
  have hmap:(List.range rest.length).map ((i0+·) ∘ Nat.succ)=(List.range rest.length).map (i0+1+·):=by
   apply List.map_congr_left;intro x _;simp only [Function.comp];omega
  rw [List.length_cons,List.range_succ_eq_map,List.map_cons,List.map_map,wpOps_cons,hmap,Nat.add_zero]
  simp only [dstAll,List.all_cons,Bool.and_eq_true] at hd
  simp only [xops] at h
  split at h
  ·rename_i σ2 fs2 h1
   obtain ⟨τ,hτ,h1⟩:=xOk_cases h1
   refine op_go hcf hi h1 g (fun d hod=>?_) (hτ _ _ _ hrep) fun a' w' hr'=>?_
   ·have:=hd.1;rw [hod] at this;simpa using this
   ·exact xops_go hcf rest (i0+1) (fun i=>by have:=hr (i+1);rw [show i0+1+i=i0+(i+1) by omega];simpa using this) h g hd.2 a' w' hr' hk
  ·rename_i hne;exact absurd h (hne σ1 fs1)
end
end Go.Ac

namespace Go.Ac
open Go
inductive XEnd where
 | normal
 | exit (id:Nat)
 | ret
 | pan (v:AV)
def EndX:XEnd->Exit->Prop
 | .normal,e=>e=.normal
 | .exit id,e=>e=.exit id
 | .ret,e=>e=.ret
 | .pan v,e=>∃ u,CV v u/\e=.panic [{v:=u,recovered:=false}]
def okDraw (ops:List Oper) (draw:Bool) (fs:List Foot):Bool :=
 match draw with
 | true=>edgesOk ops 0 && ordF (ancs ops []) fs.reverse 0
 | false=>true
def xReg (P:Program) (cf:CallF) (b N:Nat) (ops:List Oper) (draw:Bool) (σ:AS):Option (XEnd×AS) :=
 match xops P cf b ops draw ops σ [] with
 | some (.go σ1 fs)=>if dstAll N ops=true/\okDraw ops draw fs=true then some (.normal,normX σ1) else none
 | some (.pan v σ1)=>if dstAll N ops=true/\draw=false then some (.pan v,normX σ1) else none
 | none=>none
def xcode (P:Program) (cf:CallF) (b N:Nat):Nat->Code->AS->Option (XEnd×AS)
 | 0,_,_=>none
 | _+1,.skip,σ=>some (.normal,σ)
 | _+1,.ret,σ=>some (.ret,σ)
 | _+1,.exit i,σ=>some (.exit i,σ)
 | _+1,.label _,σ=>some (.normal,σ)
 | n+1,.scope c,σ=>xcode P cf b N n c σ
 | _+1,.region _ ops draw,σ=>xReg P cf b N ops.toList draw σ
 | n+1,.seq x y,σ =>
  match xcode P cf b N n x σ with
  | some (.normal,σ1)=>xcode P cf b N n y σ1
  | r=>r
 | n+1,.cond c x y,σ =>
  match evL σ c with
  | .val (.bool true)=>xcode P cf b N n x σ
  | .val (.bool false)=>xcode P cf b N n y σ
  | _=>none
 | n+1,.block i x,σ =>
  match xcode P cf b N n x σ with
  | some (.exit j,σ1)=>if j=i then some (.normal,σ1) else some (.exit j,σ1)
  | r=>r
 | n+1,.loop x,σ =>
  match xcode P cf b N n x σ with
  | some (.normal,σ1)=>xcode P cf b N n (.loop x) σ1
  | r=>r
 | _+1,_,_=>none
section
variable {P:Program} {W:World} {cf:CallF} {b N:Nat}
def PostX (E:Env) (e:XEnd) (σ1:AS):Exit->Act->World->Prop:=fun e' a' w'=>EndX e e'/\Rep E σ1.den a' w'
theorem xReg_ok (hm:P.follows .mixedOrders=true) (hcf:CFok P W cf) {id:Nat} {ops:Array Oper} {draw:Bool} {σ σ1:AS} {e:XEnd} (h:xReg P cf b N ops.toList draw σ=some (e,σ1)) {E:Env} (g:E.good W) (hN:E.N=N) {a:Act} {w:World} (hr:Rep E σ.den a w) :
 (Code.region id ops draw).wp P (PostX E e σ1) a w:=by
 unfold xReg at h
 split at h
 ·rename_i σ2 fs hx
  split at h
  case isFalse=>cases h
  rename_i hc
  cases h
  cases draw with
  | false =>
   subst hN
   refine wp_region ?_
   have:=xops_go (Q:=PostX E .normal (normX σ2)) hcf ops.toList 0 (fun i=>by simp) hx g hc.1 a w hr fun a' w' hr'=>⟨rfl,sub_normX σ2 E a' w' hr'⟩
   simpa using this
  | true =>
   have:=run_regN (P:=P) (W:=W) (ops:=ops) (draw:=true) (nfX_ok b) (N:=N) (k:=[]) (Q:=fun e τ=>e=.normal/\τ=(normX σ2).den) (σ:=σ) (id:=id) normX sub_normX hc.1
    (fun hd=>⟨hm,by have:=hc.2;simp only [okDraw,Bool.and_eq_true] at this;exact this.1⟩)
    (fun F hF=>xops_ok hcf ops.toList hx (by have:=hc.2;simp only [okDraw,Bool.and_eq_true] at this;exact this.2) (hF σ2 (run_nil ⟨rfl,rfl⟩)))
   refine wp_mono (this E g hN a w hr) fun e a' w' ⟨τ,hk,hr'⟩=>?_
   obtain ⟨h1,h2⟩:e=.normal/\τ=(normX σ2).den:=hk
   subst h1 h2
   exact ⟨rfl,hr'⟩
 ·rename_i v σ2 hx
  split at h
  case isFalse=>cases h
  rename_i hc
  cases h
  obtain ⟨hd,rfl⟩:=hc
  subst hN
  refine wp_region ?_
  have:=xops_pan (Q:=PostX E (.pan v) (normX σ2)) hcf ops.toList 0 (fun i=>by simp) hx g hd a w hr fun a' w' u hr' hu=>⟨⟨u,hu,rfl⟩,sub_normX σ2 E a' w' hr'⟩
  simpa using this
 ·cases h
theorem xcode_ok (hm:P.follows .mixedOrders=true) (hcf:CFok P W cf):∀ (n:Nat),
 (∀ (c:Code) (σ σ1:AS) (e:XEnd),xcode P cf b N n c σ=some (e,σ1)->∀ E:Env,E.good W->E.N=N->∀ a w,Rep E σ.den a w->c.wp P (PostX E e σ1) a w) ∧
 (∀ (c:Code) (σ σ1:AS) (e:XEnd),xcode P cf b N n (.loop c) σ=some (e,σ1)->∀ E:Env,E.good W->E.N=N->∀ a w,Rep E σ.den a w->Code.rounds P c (PostX E e σ1) n a w)
 | 0=>⟨fun c σ σ1 e h=>by simp [xcode] at h,fun c σ σ1 e h=>by simp [xcode] at h⟩
 | n+1=>by
  obtain ⟨ih1,ih2⟩:=xcode_ok hm hcf n
  have loops:∀ (c:Code) (σ σ1:AS) (e:XEnd),xcode P cf b N (n+1) (.loop c) σ=some (e,σ1)->∀ E:Env,E.good W->E.N=N->∀ a w,Rep E σ.den a w->Code.rounds P c (PostX E e σ1) (n+1) a w:=by
   intro c σ σ1 e h E g hN a w hr
   rw [rounds_succ]
   simp only [xcode] at h
   split at h
   ·rename_i σ2 h1
    refine wp_mono (ih1 c σ σ2 .normal h1 E g hN a w hr) fun e' a' w' ⟨q1,q2⟩=>?_
    obtain rfl:e'=.normal:=q1
    exact ih2 c σ2 σ1 e h E g hN a' w' q2
   ·rename_i hne
    refine wp_mono (ih1 c σ σ1 e h E g hN a w hr) fun e' a' w' ⟨q1,q2⟩=>?_
    cases e with
    | normal=>exact absurd h (hne σ1)
    | exit i=>obtain rfl:e'=.exit i:=q1;exact ⟨rfl,q2⟩
    | ret=>obtain rfl:e'=.ret:=q1;exact ⟨rfl,q2⟩
    | pan v=>obtain ⟨u,hu,rfl⟩:=q1;exact ⟨⟨u,hu,rfl⟩,q2⟩
  refine ⟨?_,loops⟩
  intro c σ σ1 e h E g hN a w hr
  cases c with
  | skip=>simp only [xcode,Option.some.injEq,Prod.mk.injEq] at h;obtain ⟨rfl,rfl⟩:=h;exact wp_skip ⟨rfl,hr⟩
  | ret=>simp only [xcode,Option.some.injEq,Prod.mk.injEq] at h;obtain ⟨rfl,rfl⟩:=h;exact wp_ret ⟨rfl,hr⟩
  | exit i=>simp only [xcode,Option.some.injEq,Prod.mk.injEq] at h;obtain ⟨rfl,rfl⟩:=h;exact wp_exit ⟨rfl,hr⟩
  | label l=>simp only [xcode,Option.some.injEq,Prod.mk.injEq] at h;obtain ⟨rfl,rfl⟩:=h;exact wp_label ⟨rfl,hr⟩
  | scope c =>
   simp only [xcode] at h
   refine wp_scope_straight (wp_mono (ih1 c σ σ1 e h E g hN a w hr) fun e' a' w' ⟨q1,q2⟩=>?_)
   cases e with
   | normal=>obtain rfl:e'=.normal:=q1;exact ⟨rfl,q2⟩
   | exit i=>obtain rfl:e'=.exit i:=q1;exact ⟨rfl,q2⟩
   | ret=>obtain rfl:e'=.ret:=q1;exact ⟨rfl,q2⟩
   | pan v=>obtain ⟨u,hu,rfl⟩:=q1;exact ⟨⟨u,hu,rfl⟩,q2⟩
  | region id ops draw =>
   simp only [xcode] at h
   exact xReg_ok hm hcf h g hN hr
  | seq x y =>
   simp only [xcode] at h
   refine wp_seq ?_
   split at h
   ·rename_i σ2 h1
    refine wp_mono (ih1 x σ σ2 .normal h1 E g hN a w hr) fun e' a' w' ⟨q1,q2⟩=>?_
    obtain rfl:e'=.normal:=q1
    exact ih1 y σ2 σ1 e h E g hN a' w' q2
   ·rename_i hne
    refine wp_mono (ih1 x σ σ1 e h E g hN a w hr) fun e' a' w' ⟨q1,q2⟩=>?_
    cases e with
    | normal=>exact absurd h (hne σ1)
    | exit i=>obtain rfl:e'=.exit i:=q1;exact ⟨rfl,q2⟩
    | ret=>obtain rfl:e'=.ret:=q1;exact ⟨rfl,q2⟩
    | pan v=>obtain ⟨u,hu,rfl⟩:=q1;exact ⟨⟨u,hu,rfl⟩,q2⟩
  | cond c x y =>
   simp only [xcode] at h
   obtain ⟨β,I,r⟩:=hr
   split at h
   ·rename_i hc
    have hv:=(R_ev r ((evL_den σ c).trans hc)).val_inv
    exact wp_cond_split hv (fun _=>ih1 x σ σ1 e h E g hN a w ⟨β,I,r⟩) (fun e=>by cases e)
   ·rename_i hc
    have hv:=(R_ev r ((evL_den σ c).trans hc)).val_inv
    exact wp_cond_split hv (fun e=>by cases e) (fun _=>ih1 y σ σ1 e h E g hN a w ⟨β,I,r⟩)
   ·cases h
  | block i x =>
   simp only [xcode] at h
   refine wp_block ?_
   split at h
   ·rename_i j σ2 h1
    refine wp_mono (ih1 x σ σ2 (.exit j) h1 E g hN a w hr) fun e' a' w' ⟨q1,q2⟩=>?_
    obtain rfl:e'=.exit j:=q1
    simp only [Exit.inBlock]
    split at h
    ·rename_i e1
     simp only [Option.some.injEq,Prod.mk.injEq] at h
     obtain ⟨rfl,rfl⟩:=h
     rw [if_pos e1];exact ⟨rfl,q2⟩
    ·rename_i e1
     simp only [Option.some.injEq,Prod.mk.injEq] at h
     obtain ⟨rfl,rfl⟩:=h
     rw [if_neg e1];exact ⟨rfl,q2⟩
   ·rename_i hne
    refine wp_mono (ih1 x σ σ1 e h E g hN a w hr) fun e' a' w' ⟨q1,q2⟩=>?_
    cases e with
    | normal=>obtain rfl:e'=.normal:=q1;exact ⟨rfl,q2⟩
    | exit j=>exact absurd h (hne j σ1)
    | ret=>obtain rfl:e'=.ret:=q1;exact ⟨rfl,q2⟩
    | pan v=>obtain ⟨u,hu,rfl⟩:=q1;exact ⟨⟨u,hu,rfl⟩,q2⟩
  | loop x=>exact wp_loop_rounds (n+1) (loops x σ σ1 e h E g hN a w hr)
  | _=>simp [xcode] at h
end
def defOf (o:Oper):Option (Operand×Array Operand) :=
 match o.op,o.guard,o.dst with
 | .defer {callee:=.value x,args:=xs,argTypes:=_},none,none=>some (x,xs)
 | _,_,_=>none
theorem defOf_spec {o:Oper} {x:Operand} {xs:Array Operand} (h:defOf o=some (x,xs)):(∃ ts,o.op=.defer {callee:=.value x,args:=xs,argTypes:=ts})/\o.guard=none/\o.dst=none:=by
 unfold defOf at h
 split at h
 ·rename_i h1 h2 h3;cases h;exact ⟨⟨_,h1⟩,h2,h3⟩
 ·cases h
def xDef2 (P:Program) (σ:AS) (f:FuncId) (As:List AV):Option (FuncId×List AV):=if (simpL As && (bigAll σ.h && callable P f))=true then some (f,As) else none
def xDef (P:Program) (σ:AS) (As:List AV):AV->Option (FuncId×List AV)
 | .fn (.func f) fs caps=>xDef2 P σ f (fs++As++caps)
 | .val (.func (.func f) ⟨[]⟩ ⟨[]⟩)=>xDef2 P σ f As
 | _=>none
def xopsT (P:Program) (cf:CallF) (b:Nat) (all:List Oper):List Oper->List (FuncId×List AV)->AS->Option (List (FuncId×List AV)×AS)
 | [],ds,σ=>some (ds,σ)
 | o::rest,ds,σ =>
  match defOf o with
  | some (x,xs) =>
   match xDef P σ (xs.toList.map (evL σ)) (evL σ x) with
   | some d=>xopsT P cf b all rest (d::ds) σ
   | none=>none
  | none =>
   match xO P cf b all false σ [] o.dst o.op o.guard with
   | some (.go σ1 _)=>xopsT P cf b all rest ds σ1
   | _=>none
def anyDef:List Oper->Bool
 | []=>false
 | o::rest=>match defOf o with|some _=>true|none=>anyDef rest
def liftT (ds:List (FuncId×List AV)):Option (XEnd×AS)->Option (XEnd×List (FuncId×List AV)×AS)
 | some (e,σ)=>some (e,ds,σ)
 | none=>none
def xregT (P:Program) (cf:CallF) (b N:Nat) (ops:List Oper) (draw:Bool) (ds:List (FuncId×List AV)) (σ:AS):Option (XEnd×List (FuncId×List AV)×AS) :=
 match anyDef ops with
 | false=>liftT ds (xReg P cf b N ops draw σ)
 | true=>if (!draw && dstAll N ops)=true then
  match xopsT P cf b ops ops ds σ with
  | some (ds1,σ1)=>some (.normal,ds1,normX σ1)
  | none=>none
  else none
def xtop (P:Program) (cf:CallF) (b N:Nat):Nat->Code->List (FuncId×List AV)->AS->Option (XEnd×List (FuncId×List AV)×AS)
 | 0,_,_,_=>none
 | n+1,.seq x y,ds,σ =>
  match xtop P cf b N n x ds σ with
  | some (.normal,ds1,σ1)=>xtop P cf b N n y ds1 σ1
  | r=>r
 | _+1,.region _ ops draw,ds,σ=>xregT P cf b N ops.toList draw ds σ
 | n+1,c,ds,σ=>liftT ds (xcode P cf b N n c σ)
section
variable {P:Program} {W:World} {cf:CallF} {b N:Nat}
structure Ele (E E':Env):Prop where
 N:E'.N=E.N
 w0:E'.w0=E.w0
 I0:E'.I0=E.I0
 B0:E'.B0=E.B0
 pin:∀ k p,E.pin k=some p->E'.pin k=some p
theorem Ele.refl (E:Env):Ele E E:=⟨rfl,rfl,rfl,rfl,fun _ _ h=>h⟩
theorem Ele.trans {E E' E'':Env} (h:Ele E E') (h':Ele E' E''):Ele E E'':=⟨h'.N.trans h.N,h'.w0.trans h.w0,h'.I0.trans h.I0,h'.B0.trans h.B0,fun k p hk=>h'.pin k p (h.pin k p hk)⟩
theorem Ele.good {E E':Env} (h:Ele E E') (g:E.good W):E'.good W:=⟨by rw [h.w0];exact g.over,by rw [h.B0];exact g.lent⟩
def PostT (E:Env) (e:XEnd) (ds:List (FuncId×List AV)) (σ1:AS):Exit->Act->World->Prop :=
 fun e' a' w'=>∃ E',Ele E E'/\DefsR E'.pin ds E'.dl/\EndX e e'/\Rep E' σ1.den a' w'
theorem defer_env {E:Env} {σ:AS} {a:Act} {w:World} {β:Nat->Plc} {I:Nat->Prop} {ds:List (FuncId×List AV)} (r:RepAt E σ.den a w β I) (hD:DefsR E.pin ds E.dl) {f:FuncId} {As:List AV} {us vs:List Value} (hs:simpL As=true) (hb:bigAll σ.h=true)
 (hv:RL β (dom σ.den.h) I w.heap true As (us++vs)) :
 ∃ E':Env,Ele E E'/\DefsR E'.pin ((f,As)::ds) E'.dl/\E'.dl={target:=.fn (.func f) vs.toArray,args:=us.toArray}::E.dl ∧
  RepAt E' σ.den {a with defers:={target:=.fn (.func f) vs.toArray,args:=us.toArray}::a.defers} w β I:=by
 have hp:∀ k p,E.pin k=some p->(if (hg σ.h k).isSome=true then some (β k) else none)=some p:=fun k p hk=>by
  obtain ⟨q1,q2,q3⟩:=r.fr.pin k p hk
  have q2':(hg σ.h k).isSome=true:=q2
  rw [if_pos q2',q3]
 refine ⟨{E with pin:=fun k=>if (hg σ.h k).isSome=true then some (β k) else none,dl:={target:=.fn (.func f) vs.toArray,args:=us.toArray}::E.dl},⟨rfl,rfl,rfl,rfl,hp⟩,?_,rfl,?_⟩
 ·refine .cons ⟨us,vs,rfl,?_⟩ (hD.mono hp)
  exact held_of (β:=β) (D:=dom σ.den.h) (fun k hk=>by
   have hk':(hg σ.h k).isSome=true:=hk
   simp only [hk',if_true]) hs hv
 ·refine ⟨r.tmps,r.inv,?_,r.size,by rw [r.defers]⟩
  obtain ⟨f1,f2,f3,f4,f5,f6,f7,f8,f9⟩:=r.fr
  refine ⟨f1,f2,f3,f4,f5,f6,f7,f8,fun k p hk=>?_⟩
  have hk':(if (hg σ.h k).isSome=true then some (β k) else none)=some p:=hk
  split at hk'
  ·rename_i hi
   obtain ⟨gg,hgk⟩:=Option.isSome_iff_exists.1 hi
   exact ⟨bigAll_spec hb k gg hgk,hi,by cases hk';rfl⟩
  ·cases hk'
theorem xDef_spec {P:Program} {σ:AS} {E:Env} {a:Act} {w:World} {β:Nat->Plc} {I:Nat->Prop} (r:RepAt E σ.den a w β I) {x:Operand} {xs:Array Operand} {ts:Array TypeId} {o:Oper} {d:FuncId×List AV}
 (ho:o.op=.defer {callee:=.value x,args:=xs,argTypes:=ts}) (h:xDef P σ (xs.toList.map (evL σ)) (evL σ x)=some d) :
 simpL d.2=true/\bigAll σ.h=true/\∃ us vs:List Value,RL β (dom σ.den.h) I w.heap true d.2 (us++vs)/\(execOp a.eval o).run P w=.ok (.defer {target:=.fn (.func d.1) vs.toArray,args:=us.toArray}) w:=by
 have hxs:RL β (dom σ.den.h) I w.heap true (xs.toList.map (evL σ)) (xs.toList.map a.eval):=by
  have:=RL_ops (β:=β) (D:=dom σ.den.h) (I:=I) (H:=w.heap) (σ:=σ) (a:=a) xs.toList fun x _=>R_ev r (evL_den σ x)
  exact this
 have hev:=R_ev r (evL_den σ x)
 have two:∀ f As,xDef2 P σ f As=some d->d=(f,As)/\simpL As=true/\bigAll σ.h=true:=fun f As h2=>by
  unfold xDef2 at h2
  split at h2
  ·rename_i hc
   simp only [Bool.and_eq_true] at hc
   simp only [Option.some.injEq] at h2
   exact ⟨h2.symm,hc.1,hc.2.1⟩
  ·cases h2
 unfold xDef at h
 split at h
 ·rename_i f fs caps hx
  obtain ⟨rfl,h1,h2⟩:=two _ _ h
  rw [hx] at hev
  obtain ⟨us,vs,hval,q1,q2⟩:=hev.fn_inv
  refine ⟨h1,h2,us++xs.toList.map a.eval,vs,RL.append (RL.append q1 hxs) q2,?_⟩
  simp [execOp,ho,resolve,hval,Deferred.ofValue]
 ·rename_i f hx
  obtain ⟨rfl,h1,h2⟩:=two _ _ h
  rw [hx] at hev
  have hval:=hev.val_inv
  refine ⟨h1,h2,xs.toList.map a.eval,[],by simpa using hxs,?_⟩
  have e1:(xs.toList.map a.eval).toArray=xs.map a.eval:=by rw [<-Array.toList_map]
  rw [e1]
  simp [execOp,ho,resolve,hval,Deferred.ofValue]
 ·cases h
theorem xopsT_ok (hcf:CFok P W cf) {ops:Array Oper}:∀ (rest:List Oper) (i0:Nat) {σ σ1:AS} {ds ds1:List (FuncId×List AV)},(∀ i,rest[i]?=ops[i0+i]?)->xopsT P cf b ops.toList rest ds σ=some (ds1,σ1)->∀ (E:Env),E.good W->dstAll E.N rest=true->DefsR E.pin ds E.dl →
 ∀ (a:Act) (w:World),Rep E σ.den a w->wpOps P ops (PostT E .normal ds1 (normX σ1)) ((List.range rest.length).map (i0+·)) a w
 | [],i0,σ,σ1,ds,ds1,hr,h,E,g,hd,hD,a,w,hrep=>by
  simp only [xopsT,Option.some.injEq,Prod.mk.injEq] at h
  obtain ⟨rfl,rfl⟩:=h
  exact ⟨E,Ele.refl E,hD,rfl,sub_normX σ E a w hrep⟩
 | o::rest,i0,σ,σ1,ds,ds1,hr,h,E,g,hd,hD,a,w,hrep=>by
  have hi:ops[i0]?=some o:=by have:=hr 0;simpa using this.symm
  have hrest:∀ i,rest[i]?=ops[i0+1+i]?:=fun i=>by have:=hr (i+1);rw [show i0+1+i=i0+(i+1) by omega];simpa using this
  have hmap:(List.range rest.length).map ((i0+·) ∘ Nat.succ)=(List.range rest.length).map (i0+1+·):=by
   apply List.map_congr_left;intro x _;simp only [Function.comp];omega
  rw [List.length_cons,List.range_succ_eq_map,List.map_cons,List.map_map,wpOps_cons,hmap,Nat.add_zero]
  simp only [dstAll,List.all_cons,Bool.and_eq_true] at hd
  simp only [xopsT] at h
  split at h
  ·rename_i x xs hx
   split at h
   case h_2=>cases h
   rename_i d hdx
   obtain ⟨⟨ts,ho⟩,hgd,hdst⟩:=defOf_spec hx
   obtain ⟨β,I,r⟩:=hrep
   obtain ⟨q1,q2,us,vs,q3,hrun⟩:=xDef_spec r ho hdx
   obtain ⟨E',hE,hD',hdl,r'⟩:=defer_env (f:=d.1) r hD q1 q2 q3
   have ih:=xopsT_ok hcf rest (i0+1) hrest h E' (hE.good g) (by rw [hE.N];exact hd.2) hD' _ w ⟨β,I,r'⟩
   unfold wpOp
   rw [hi]
   simp only
   have hw:Region.wanted o (yielded ops a.tmps)=true:=by simp only [Region.wanted,hgd]
   rw [if_pos hw]
   left
   unfold Oper.wp
   rw [hrun,Oper.upon_defer,hdst]
   have hmono:∀ (l:List Nat) (a:Act) (w:World),wpOps P ops (PostT E' .normal ds1 (normX σ1)) l a w->wpOps P ops (PostT E .normal ds1 (normX σ1)) l a w:=by
    have hq:∀ e a w,PostT E' .normal ds1 (normX σ1) e a w->PostT E .normal ds1 (normX σ1) e a w:=fun e a w ⟨E'',h1,h2⟩=>⟨E'',hE.trans h1,h2⟩
    intro l
    induction l with
    | nil=>exact fun a w h=>hq _ a w h
    | cons i l ih =>
     intro a w h
     simp only [wpOps] at h ⊢
     split
     ·rename_i hn;rw [hn] at h;exact ih a w h
     ·rename_i o' hs'
      rw [hs'] at h
      simp only at h
      split
      ·rename_i hw'
       rw [if_pos hw'] at h
       rcases h with h|⟨h1,a',w',h2⟩
       ·exact .inl (upon_mono h ih hq)
       ·exact .inr ⟨h1,a',w',hq _ a' w' h2⟩
      ·rename_i hw'
       rw [if_neg hw'] at h
       exact ih _ w h
   exact hmono _ _ _ ih
  ·split at h
   ·rename_i σ2 fs2 h1
    refine op_go hcf hi h1 g (fun d hod=>?_) hrep fun a' w' hr'=>?_
    ·have:=hd.1;rw [hod] at this;simpa using this
    ·exact xopsT_ok hcf rest (i0+1) hrest h E g hd.2 hD a' w' hr'
   ·cases h
theorem post_lift {E:Env} {e:XEnd} {ds:List (FuncId×List AV)} {σ1:AS} (hD:DefsR E.pin ds E.dl) {e':Exit} {a:Act} {w:World} (h:PostX E e σ1 e' a w):PostT E e ds σ1 e' a w:=⟨E,Ele.refl E,hD,h.1,h.2⟩
theorem xtop_ok (hm:P.follows .mixedOrders=true) (hcf:CFok P W cf):∀ (n:Nat) (c:Code) (ds ds1:List (FuncId×List AV)) (σ σ1:AS) (e:XEnd),xtop P cf b N n c ds σ=some (e,ds1,σ1)->∀ E:Env,E.good W->E.N=N->DefsR E.pin ds E.dl->∀ a w,Rep E σ.den a w →
 c.wp P (PostT E e ds1 σ1) a w
 | 0,c,ds,ds1,σ,σ1,e,h=>by simp [xtop] at h
 | n+1,c,ds,ds1,σ,σ1,e,h=>by
  intro E g hN hD a w hr
  have other:liftT ds (xcode P cf b N n c σ)=some (e,ds1,σ1)->c.wp P (PostT E e ds1 σ1) a w:=fun h=>by
   cases hx:xcode P cf b N n c σ with
   | none=>rw [hx] at h;cases h
   | some q =>
    obtain ⟨e0,σ0⟩:=q
    rw [hx] at h
    simp only [liftT,Option.some.injEq,Prod.mk.injEq] at h
    obtain ⟨rfl,rfl,rfl⟩:=h
    exact wp_mono ((xcode_ok hm hcf n).1 c σ σ0 e0 hx E g hN a w hr) fun e' a' w' q=>post_lift hD q
  cases c with
  | seq x y =>
   simp only [xtop] at h
   refine wp_seq ?_
   split at h
   ·rename_i ds2 σ2 h1
    refine wp_mono (xtop_ok hm hcf n x ds ds2 σ σ2 .normal h1 E g hN hD a w hr) fun e' a' w' ⟨E',q0,q1,q2,q3⟩=>?_
    obtain rfl:e'=.normal:=q2
    refine wp_mono (xtop_ok hm hcf n y ds2 ds1 σ2 σ1 e h E' (q0.good g) (q0.N.trans hN) q1 a' w' q3) fun e' a' w' ⟨E'',p0,p1⟩=>?_
    exact ⟨E'',q0.trans p0,p1⟩
   ·rename_i hne
    refine wp_mono (xtop_ok hm hcf n x ds ds1 σ σ1 e h E g hN hD a w hr) fun e' a' w' ⟨E',q0,q1,q2,q3⟩=>?_
    cases e with
    | normal=>exact absurd h (hne ds1 σ1)
    | exit i=>obtain rfl:e'=.exit i:=q2;exact ⟨E',q0,q1,rfl,q3⟩
    | ret=>obtain rfl:e'=.ret:=q2;exact ⟨E',q0,q1,rfl,q3⟩
    | pan v=>obtain ⟨u,hu,rfl⟩:=q2;exact ⟨E',q0,q1,⟨u,hu,rfl⟩,q3⟩
  | region id ops draw =>
   simp only [xtop,xregT] at h
   split at h
   ·cases hx:xReg P cf b N ops.toList draw σ with
    | none=>rw [hx] at h;cases h
    | some q =>
     obtain ⟨e0,σ0⟩:=q
     rw [hx] at h
     simp only [liftT,Option.some.injEq,Prod.mk.injEq] at h
     obtain ⟨rfl,rfl,rfl⟩:=h
     exact wp_mono (xReg_ok hm hcf hx g hN hr) fun e' a' w' q=>post_lift hD q
   ·split at h
    case isFalse=>cases h
    rename_i hc
    simp only [Bool.and_eq_true,Bool.not_eq_true'] at hc
    obtain ⟨rfl,hd⟩:=hc
    split at h
    case h_2=>cases h
    rename_i ds2 σ2 hx
    simp only [Option.some.injEq,Prod.mk.injEq] at h
    obtain ⟨rfl,rfl,rfl⟩:=h
    refine wp_region ?_
    have:=xopsT_ok hcf ops.toList 0 (fun i=>by simp) hx E g (by rw [hN];exact hd) hD a w hr
    simpa using this
  | _=>exact other (by simpa only [xtop] using h)
end
end Go.Ac

namespace Go.Ac
open Go
def keysIn (h':List (Nat×GE)):List (Nat×GE)->Bool
 | []=>true
 | (k,_)::l=>if (hg h' k).isSome=true then keysIn h' l else false
theorem keysIn_spec {h':List (Nat×GE)}:∀ {l:List (Nat×GE)},keysIn h' l=true->∀ k,(hg l k).isSome=true->(hg h' k).isSome=true
 | [],_,k,hk=>by simp [hg] at hk
 | (q,g)::l,h,k,hk=>by
  simp only [keysIn] at h
  split at h
  ·rename_i hq
   simp only [hg] at hk
   split at hk
   ·rename_i e;subst e;exact hq
   ·exact keysIn_spec h k hk
  ·cases h
def clean2 (h:List (Nat×GE)) (r:AV) (h2:List (Nat×GE)):Option (AV×List (Nat×GE)) :=
 if liveAll h2 (nms r++gesN h2)=true/\keysIn h2 h=true then some (r,h2) else none
def cleanX (h:List (Nat×GE)) (r:AV) (h1:List (Nat×GE)):Option (AV×List (Nat×GE)) :=
 clean2 h r (subH (reach h1 4000 (nms r++h.map (·.1)) []) h1)
def xRes (P:Program) (fn:Func) (h:List (Nat×GE)) (σ1:AS):Option (AV×List (Nat×GE)) :=
 match resVL P σ1.den fn.results.toList with
 | some Xs=>cleanX h (resV Xs) σ1.h
 | none=>none
def isRec (o:Oper):Bool :=
 match o.op,o.guard with
 | .call {callee:=.builtin .recover,args:=⟨[]⟩,argTypes:=_},none=>true
 | _,_=>false
def recOf:Code->Option (Nat×Oper×List Oper×Array Oper×Code)
 | .seq (.region id ⟨o::rest⟩ false) y=>if isRec o=true then some (id,o,rest,⟨o::rest⟩,y) else none
 | _=>none
theorem recOf_spec {c y:Code} {id:Nat} {o:Oper} {rest:List Oper} {ops:Array Oper} (h:recOf c=some (id,o,rest,ops,y)):c=.seq (.region id ops false) y/\ops.toList=o::rest/\isRec o=true:=by
 unfold recOf at h
 split at h
 ·split at h
  ·rename_i hr
   simp only [Option.some.injEq,Prod.mk.injEq] at h
   obtain ⟨rfl,rfl,rfl,rfl,rfl⟩:=h
   exact ⟨rfl,rfl,hr⟩
  ·cases h
 ·cases h
def xdefEnd (P:Program) (fn:Func) (h:List (Nat×GE)):Option (XEnd×AS)->Option (List (Nat×GE))
 | some (.normal,σ)=>if (resVL P σ.den fn.results.toList).isSome=true then (cleanX h .top σ.h).map (·.2) else none
 | some (.ret,σ)=>if (resVL P σ.den fn.results.toList).isSome=true then (cleanX h .top σ.h).map (·.2) else none
 | _=>none
def xdefR (P:Program) (F:Nat) (cf:CallF) (b:Nat) (fn:Func) (h:List (Nat×GE)) (y:Code):Option XR->Option (List (Nat×GE))
 | some (.go σ2 _)=>xdefEnd P fn h (xcode P cf b fn.ntmps F y (normX σ2))
 | _=>none
def xdef (P:Program) (F:Nat) (cf:CallF) (b:Nat) (f:FuncId) (As:List AV) (h:List (Nat×GE)) (m:Option AV):Option (List (Nat×GE)) :=
 match P.funcs[f]? with
 | some fn =>
  match fn.body with
  | some c =>
   match recOf c with
   | some (_,o,rest,ops,y) =>
    if As.length<=fn.ntmps/\100000<=b/\dstAll fn.ntmps (o::rest)=true then xdefR P F cf b fn h y (xops P cf b ops.toList false rest ((⟨argT 0 As,h⟩:AS).up ⟨o.dst,m.getD (.val .nilIface),[]⟩) []) else none
   | none=>none
  | none=>none
 | none=>none
def xlv2 (σ:AS) (hs:List (Nat×GE)):Option (List (Nat×GE))->Option AS
 | some h'=>if okBack σ hs h'=true then some (σ.up ⟨none,.top,h'⟩) else none
 | none=>none
def xlv1 (P:Program) (F:Nat) (cf:CallF) (b:Nat) (f:FuncId) (As:List AV) (m:Option AV) (σ:AS) (hs:List (Nat×GE)):Option AS :=
 if okLent P f As hs=true then xlv2 σ hs (xdef P F cf (topN b σ.h) f As hs m) else none
def xleave (P:Program) (F:Nat) (cf:CallF) (b:Nat):List (FuncId×List AV)->Option AV->AS->Option (Option AV×AS)
 | [],m,σ=>some (m,σ)
 | (f,As)::ds,m,σ =>
  match xlv1 P F cf b f As m σ (lentOf σ As) with
  | some σ1=>xleave P F cf b ds none σ1
  | none=>none
def xfin (P:Program) (fn:Func) (h:List (Nat×GE)):Option (Option AV×AS)->Option OutC
 | some (none,σ2)=>(xRes P fn h σ2).map fun p=>.ret p.1 p.2
 | some (some v,σ2)=>(cleanX h .top σ2.h).map fun p=>.pan v p.2
 | none=>none
def xEndT (P:Program) (F:Nat) (cf:CallF) (b:Nat) (fn:Func) (h:List (Nat×GE)):Option (XEnd×List (FuncId×List AV)×AS)->Option OutC
 | some (.normal,ds,σ1)=>xfin P fn h (xleave P F cf b ds none σ1)
 | some (.ret,ds,σ1)=>xfin P fn h (xleave P F cf b ds none σ1)
 | some (.pan v,ds,σ1)=>xfin P fn h (xleave P F cf b ds (some v) σ1)
 | _=>none
def xfun (P:Program) (F:Nat):Nat->CallF
 | 0,_,_,_,_=>none
 | n+1,f,As,h,b =>
  match P.funcs[f]? with
  | some fn =>
   match fn.body with
   | some c=>if As.length<=fn.ntmps/\100000<=b then xEndT P F (xfun P F n) b fn h (xtop P (xfun P F n) b fn.ntmps F c [] ⟨argT 0 As,h⟩) else none
   | none=>none
  | none=>none
section
variable {P:Program} {W:World}
theorem rep0H {β:Nat->Plc} {I:Nat->Prop} {w:World} {vs:List Value} {args:List AV} {h:List (Nat×GE)} {N:Nat} (hi:Inv β I (hg h) w.heap) (hR:RL β (dom (hg h)) I w.heap true args vs) (hN:args.length<=N) (hb:∀ k g,hg h k=some g->100000<=k) :
 RepAt (lentE N w I β h) (AS.mk (argT 0 args) h).den {tmps:=vs.toArray++Array.replicate (N - vs.toArray.size) undef,defers:=[]} w β I:=by
 have hl:=hR.length
 refine ⟨fun i=>?_,hi,⟨Nat.le_refl _,rfl,rfl,rfl,(fun _ _ _=>rfl),(fun _ h=>h),(fun _ h _=>.inl h),(fun k g hk hbk hs=>.inr ⟨k,g,hk,hbk,hs,rfl⟩),fun k p hp=>?_⟩,(by simp [lentE];omega),rfl⟩
 ·show R β (dom (hg h)) I w.heap true (tg (argT 0 args) i) _
  rw [tg_argT,if_pos (Nat.zero_le _),Nat.sub_zero]
  cases ha:args[i]? with
  | none=>exact .top _ _
  | some A =>
   obtain ⟨v,hv,hr⟩:=hR.get' i A ha
   have hlt:i<vs.length:=(List.getElem?_eq_some_iff.1 hv).1
   have:(vs.toArray++Array.replicate (N - vs.toArray.size) undef).getD i undef=v:=by
    rw [Array.getD_eq_getD_getElem?,Array.getElem?_append_left (by simpa using hlt)]
    simp [hv]
   rw [this]
   exact hr
 ·have hp':(if (hg h k).isSome=true then some (β k) else none)=some p:=hp
  split at hp'
  ·rename_i hs
   cases hp'
   obtain ⟨g,hgk⟩:=Option.isSome_iff_exists.1 hs
   exact ⟨hb k g hgk,hs,rfl⟩
  ·cases hp'
theorem GEok.dom {β:Nat->Plc} {D D' I:Nat->Prop} {H:Array Obj} {k:Nat} {g:GE} (h:GEok β D I H k g) (hn:∀ n ∈ geNms g,D' n):GEok β D' I H k g:=by
 cases g with
 | box el st =>
  obtain ⟨vs,T,g1,g2,g3,g4,g5,g6⟩:=h
  exact ⟨vs,T,g1,g2,g3.dom (by rw [nmsL_flat];exact hn),g4,g5,g6⟩
 | arr e n els st =>
  obtain ⟨g1,g2,g3,g4⟩:=h
  refine ⟨g1,g2,g3,?_⟩
  rcases g4 with g4|⟨g4,vs,g5,g6,g7,g8,g9⟩
  ·exact .inl g4
  ·exact .inr ⟨g4,vs,g5,g6,g7,g8.dom (by rw [nmsL_flats];exact hn),g9⟩
 | map es st =>
  obtain ⟨ms,c,g1,g2,g3,g4⟩:=h
  exact ⟨ms,c,g1,g2.dom (fun n hn'=>hn n (by simp only [geNms,List.mem_append];exact .inl hn')),g3.dom (fun n hn'=>hn n (by simp only [geNms,List.mem_append];exact .inr hn')),g4⟩
 | iter s p=>exact h
 | dead=>trivial
theorem clean_fin {w w':World} {I I':Nat->Prop} {β β':Nat->Plc} {h h2:List (Nat×GE)} {N:Nat} {σ1:AS} {r:AV} {v:Value} {ns:List Nat} (r'i:Inv β' I' σ1.den.h w'.heap) (r'f:Fr (lentE N w I β h) β' I' σ1.den.h w') (hv:R β' (dom σ1.den.h) I' w'.heap true r v)
 (he:h2=subH ns σ1.h) (hl:liveAll h2 (nms r++gesN h2)=true) (hk:keysIn h2 h=true) :
 R β' (dom (hg h2)) I' w'.heap true r v/\Inv β' I' (hg h2) w'.heap/\Fr (lentE 0 w I β h) β' I' (hg h2) w':=by
 have hlive:=liveAll_spec hl
 have old:∀ k g,hg h2 k=some g->hg σ1.h k=some g:=fun k g hk=>by
  rw [he,hg_subH] at hk
  split at hk
  ·exact hk
  ·cases hk
 refine ⟨hv.dom fun n hn=>hlive n (List.mem_append.2 (.inl hn)),⟨fun k g hk'=>?_,r'i.imm,fun k k' g g' hne h1 h2'=>r'i.sep k k' g g' hne (old k g h1) (old k' g' h2')⟩,?_⟩
 ·exact (r'i.ge k g (old k g hk')).dom fun n hn=>hlive n (List.mem_append.2 (.inr (nms_hg _ k g n hk' hn)))
 ·obtain ⟨f1,f2,f3,f4,f5,f6,f7,f8,f9⟩:=r'f
  refine ⟨f1,f2,f3,f4,f5,f6,f7,fun k g hk'=>f8 k g (old k g hk'),fun k p hp=>?_⟩
  obtain ⟨p1,p2,p3⟩:=f9 k p hp
  refine ⟨p1,keysIn_spec hk k ?_,p3⟩
  have hp':(if (hg h k).isSome=true then some (β k) else none)=some p:=hp
  split at hp'
  ·assumption
  ·cases hp'
theorem Fr.ele {E E':Env} {β:Nat->Plc} {I:Nat->Prop} {h:Nat->Option GE} {w:World} (e:Ele E E') (f:Fr E' β I h w):Fr E β I h w:=by
 obtain ⟨f1,f2,f3,f4,f5,f6,f7,f8,f9⟩:=f
 rw [e.w0] at f1 f2 f3 f4 f5 f7 f8
 rw [e.I0] at f6 f7
 rw [e.B0] at f5 f7 f8
 exact ⟨f1,f2,f3,f4,f5,f6,f7,f8,fun k p hk=>f9 k p (e.pin k p hk)⟩
theorem cleanX_spec {h h1 h':List (Nat×GE)} {r r':AV} (hx:cleanX h r h1=some (r',h')):r'=r/\∃ ns,h'=subH ns h1/\liveAll h' (nms r++gesN h')=true/\keysIn h' h=true:=by
 unfold cleanX clean2 at hx
 split at hx
 case isFalse=>cases hx
 rename_i hc
 simp only [Option.some.injEq,Prod.mk.injEq] at hx
 obtain ⟨rfl,rfl⟩:=hx
 exact ⟨rfl,_,rfl,hc.1,hc.2⟩
theorem rep_slot {E:Env} {σ:AS} {a:Act} {w:World} {dst:Option Nat} {x:AV} {v:Value} (hr:Rep E σ.den a w) (hd:∀ d,dst=some d->d<E.N) (hv:CV x v):Rep E (σ.up ⟨dst,x,[]⟩).den (a.put dst v) w:=by
 obtain ⟨β,I,r⟩:=hr
 rw [up_den σ ⟨dst,x,[]⟩ {dst:=dst,v:=x,wh:=[]} rfl rfl rfl]
 exact ⟨β,I,r.put hd (hv _ _ _ _ _)⟩
theorem xdef_ok (hm:P.follows .mixedOrders=true) (F:Nat) {cf:CallF} (hcf:CFok P W cf) {b:Nat} {f:FuncId} {As:List AV} {h h':List (Nat×GE)} {m:Option AV} (hx:xdef P F cf b f As h m=some h') (hbig:bigAll h=true):DefC P W f As h m none h':=by
 unfold xdef at hx
 split at hx
 case h_2=>cases hx
 rename_i fn hf
 split at hx
 case h_2=>cases hx
 rename_i c hc
 split at hx
 case h_2=>cases hx
 rename_i id o rest ops y hrec
 split at hx
 case isFalse=>cases hx
 rename_i hcond
 obtain ⟨rfl,hops,hisr⟩:=recOf_spec hrec
 unfold xdefR at hx
 split at hx
 case h_2=>cases hx
 rename_i σ2 fs2 hx2
 intro β I w vs u hw hlB hi hR hmode
 have hr:=rep0H hi hR hcond.1 (bigAll_spec hbig)
 have hg':Env.good W (lentE fn.ntmps w I β h):=⟨hw,hlB⟩
 refine callsD_of_wpS hf hc fun c₀ cs hu=>wpS_seq (wpS_region ?_)
 have hi0:ops[0]?=some o:=by rw [<-Array.getElem?_toList,hops];rfl
 have hsz:ops.size=rest.length+1:=by rw [<-Array.length_toList,hops];rfl
 have hrest:∀ i,rest[i]?=ops[1+i]?:=fun i=>by rw [<-Array.getElem?_toList,hops,Nat.add_comm];rfl
 rw [hsz,List.range_succ_eq_map]
 simp only [wpOpsS,hi0]
 have hgd:o.guard=none/\∀ (ρ:Act),(execOp ρ.eval o).run P w=.ok .recover w:=by
  unfold isRec at hisr
  split at hisr
  ·rename_i ts h1 h2
   refine ⟨h2,fun ρ=>?_⟩
   simp only [execOp,h1,resolve,Sem.run_bind,Sem.run_pure,Result.andThen_ok,invoke]
   rfl
  ·cases hisr
 have hwant:∀ yy,Region.wanted o yy=true:=fun yy=>by simp only [Region.wanted,hgd.1]
 rw [if_pos (hwant _)]
 rw [hgd.2]
 simp only
 have hdo:∀ d,o.dst=some d->d<fn.ntmps:=fun d hd=>by
  have:=hcond.2.2
  simp only [dstAll,List.all_cons,Bool.and_eq_true] at this
  have:=this.1
  rw [hd] at this
  simpa using this
 have hdr:dstAll fn.ntmps rest=true:=by
  have:=hcond.2.2
  simp only [dstAll,List.all_cons,Bool.and_eq_true] at this
  exact this.2
 have hmap:(List.range rest.length).map Nat.succ=(List.range rest.length).map (1+·):=by
  apply List.map_congr_left;intro x _;simp only [Nat.succ_eq_add_one];omega
 have go:∀ (v:Value) (cs':List Frame) (u':FrameMode),CV (m.getD (.val .nilIface)) v->cs'={c₀ with mode:=u'}::cs->settle u'=.returning →
  wpOpsS P ops (Exit.thenS (y.wpS P (bodyPostS P fn c₀ cs fun e u' w'=>∃ v,e=.returned v/\ModeR none (settle u')/\∃ β' I',Inv β' I' (hg h') w'.heap/\Fr (lentE 0 w I β h) β' I' (hg h') w'))
   (bodyPostS P fn c₀ cs fun e u' w'=>∃ v,e=.returned v/\ModeR none (settle u')/\∃ β' I',Inv β' I' (hg h') w'.heap/\Fr (lentE 0 w I β h) β' I' (hg h') w')) ((List.range rest.length).map (1+·))
   (({tmps:=vs.toArray++Array.replicate (fn.ntmps - vs.toArray.size) undef,defers:=[]}:Act).put o.dst v) cs' w:=by
  intro v cs' u' hcv hcs hset
  have hr1:=rep_slot (dst:=o.dst) (show Rep _ _ _ _ from ⟨β,I,hr⟩) hdo hcv
  refine wpOpsS_of (Q:=fun e a' w'=>e=.normal/\Rep (lentE fn.ntmps w I β h) (normX σ2).den a' w') (fun a w q=>by cases q.1) cs' ?_ _ _ _ (xops_go (Q:=fun e a' w'=>e=.normal/\Rep (lentE fn.ntmps w I β h) (normX σ2).den a' w') hcf rest 1 hrest hx2 hg' hdr _ w hr1 fun a' w' hr'=>⟨rfl,sub_normX σ2 _ a' w' hr'⟩)
  rintro e a' w' ⟨rfl,hr'⟩
  show y.wpS P _ a' cs' w'
  refine wpS_of_wp ?_
  have fin:∀ (e:XEnd) (σ3:AS),(e=.normal\/e=.ret)->(if (resVL P σ3.den fn.results.toList).isSome=true then (cleanX h .top σ3.h).map (·.2) else none)=some h'->∀ a' w',Rep (lentE fn.ntmps w I β h) σ3.den a' w' →
   a'.defers=[]/\∃ u',cs'={c₀ with mode:=u'}::cs/\∃ v,(results fn a'.tmps).run P w'=.ok v w'/\∃ v',Ending.returned v=.returned v'/\ModeR none (settle u')/\∃ β' I',Inv β' I' (hg h') w'.heap/\Fr (lentE 0 w I β h) β' I' (hg h') w':=by
   rintro e σ3 _ hxx a' w' ⟨β',I',r'⟩
   split at hxx
   case isFalse=>cases hxx
   rename_i hres
   obtain ⟨Xs,hXs⟩:=Option.isSome_iff_exists.1 hres
   obtain ⟨v,hv,_⟩:=results_run (P:=P) r' hXs
   cases hcl:cleanX h .top σ3.h with
   | none=>rw [hcl] at hxx;cases hxx
   | some p =>
    obtain ⟨rr,h2⟩:=p
    rw [hcl] at hxx
    simp only [Option.map_some,Option.some.injEq] at hxx
    subst hxx
    obtain ⟨_,ns,q1,q2,q3⟩:=cleanX_spec hcl
    have:=clean_fin (v:=undef) r'.inv r'.fr (.top _ _) q1 q2 q3
    exact ⟨r'.defers,u',hcs,v,hv,v,rfl,hset,β',I',this.2.1,this.2.2⟩
  cases hx3:xcode P cf b fn.ntmps F y (normX σ2) with
  | none=>rw [hx3] at hx;cases hx
  | some q =>
   obtain ⟨e,σ3⟩:=q
   rw [hx3] at hx
   refine wp_mono ((xcode_ok hm hcf F).1 y _ σ3 e hx3 _ hg' rfl a' w' hr') fun e' a'' w'' ⟨q1,q2⟩=>?_
   cases e with
   | normal=>obtain rfl:e'=.normal:=q1;exact fin XEnd.normal σ3 (.inl rfl) hx a'' w'' q2
   | ret=>obtain rfl:e'=.ret:=q1;exact fin XEnd.ret σ3 (.inr rfl) hx a'' w'' q2
   | exit i=>cases hx
   | pan v=>cases hx
 rw [<-hmap] at go
 cases m with
 | none =>
  have hu':u=.returning:=hmode
  have hrd:recoverD (c₀::cs)=none:=by simp only [recoverD,hu,hu']
  rw [hrd]
  exact go .nilIface (c₀::cs) u (fun _ _ _ _ _=>.val _ _) (by rw [<-hu]) (by rw [hu'];rfl)
 | some pv =>
  obtain ⟨v,hcv,hu'⟩:=hmode
  have hrd:recoverD (c₀::cs)=some (v,{c₀ with mode:=.panicking [{v,recovered:=true}]}::cs):=by simp only [recoverD,hu,hu']
  rw [hrd]
  exact go v _ (.panicking [{v,recovered:=true}]) hcv rfl rfl
theorem xleave_ok (hm:P.follows .mixedOrders=true) (F:Nat) {cf:CallF} (hcf:CFok P W cf) {b:Nat} {E:Env} {a:Act} {fn:Func} {tmps:Array Value} {Rf:Ending->World->Prop} (g:E.good W):∀ (ds:List (FuncId×List AV)) (m m':Option AV) (σ σ':AS) (dl:List Deferred) (u:FrameMode) (w:World),
 xleave P F cf b ds m σ=some (m',σ')->DefsR E.pin ds dl->Rep E σ.den a w->ModeR m u->(∀ w' u',Rep E σ'.den a w'->ModeR m' u'->Leaves P fn tmps Rf [] u' w')->Leaves P fn tmps Rf dl u w
 | [],m,m',σ,σ',dl,u,w,hx,hD,hr,hmode,fin=>by
  simp only [xleave,Option.some.injEq,Prod.mk.injEq] at hx
  obtain ⟨rfl,rfl⟩:=hx
  cases hD
  exact fin w u hr hmode
 | (f,As)::ds,m,m',σ,σ',dl,u,w,hx,hD,hr,hmode,fin=>by
  cases hD with
  | cons hd hD =>
  simp only [xleave] at hx
  split at hx
  case h_2=>cases hx
  rename_i σ1 h1
  unfold xlv1 at h1
  split at h1
  case isFalse=>cases h1
  rename_i hl
  unfold xlv2 at h1
  split at h1
  case h_2=>cases h1
  rename_i h' hdf
  split at h1
  case isFalse=>cases h1
  rename_i hb
  simp only [Option.some.injEq] at h1
  subst h1
  simp only [okLent,Bool.and_eq_true] at hl
  obtain ⟨⟨⟨l1,l2⟩,l3⟩,l4⟩:=hl
  simp only [okBack,Bool.and_eq_true] at hb
  obtain ⟨⟨b1,b2⟩,b3⟩:=hb
  have hlive:=liveAll_spec l1
  have L:Lends (fun k=>k) (lentOf σ As) h' As σ.den.h:=by
   refine lends_of (hs:=lentOf σ As) (fun k g hk=>?_) (nodup_of b1) (noFrz_spec b2) (fun k g hk n hn=>hlive n (List.mem_append.2 (.inr (nms_hg _ k g n hk hn)))) (fun n hn=>hlive n (List.mem_append.2 (.inl hn))) (lendable_spec l2) fun p hp=>?_
   ·unfold lentOf at hk
    rw [hg_subH] at hk
    split at hk
    ·exact hk
    ·cases hk
   ·rcases newKeys_spec (lentOf σ As) h' p hp with q|q
    ·exact .inl q
    ·exact .inr (freshKs_spec b3 _ q)
  refine leaves_defC hd l4 (xdef_ok hm F hcf hdf l3) L g hr hmode fun w' u' hr' hm'=>?_
  refine xleave_ok hm F hcf g ds none m' _ σ' _ u' w' hx hD ?_ hm' fin
  have e:(σ.up ⟨none,.top,h'⟩).den=⟨σ.den.t,frshH (fun k=>k) h' σ.den.h⟩:=by
   rw [up_den σ ⟨none,.top,h'⟩ {dst:=none,v:=.top,wh:=frshW (fun k=>k) h'} rfl rfl (by simp only [frshW,renG_id])]
   simp only [SS.upd,tset]
   rw [hset_frsh _ _ _ (nodup_of b1)]
  rw [e];exact hr'
theorem xfun_ok (hm:P.follows .mixedOrders=true) (F:Nat):∀ n,CFok P W (xfun P F n)
 | 0=>by intro f As h b o hx;simp [xfun] at hx
 | n+1=>by
  intro f As h b oc hx hcl hbig
  have ih:=xfun_ok hm F n
  simp only [xfun] at hx
  split at hx
  case h_2=>cases hx
  rename_i fn hf
  split at hx
  case h_2=>cases hx
  rename_i c hc
  split at hx
  case isFalse=>cases hx
  rename_i hcond
  intro β I w vs hw hlB hi hR
  refine calls_of_wp_defers hf hc ?_
  have hr:=rep0H hi hR hcond.1 (bigAll_spec hbig)
  have hg':Env.good W (lentE fn.ntmps w I β h):=⟨hw,hlB⟩
  cases hx1:xtop P (xfun P F n) b fn.ntmps F c [] ⟨argT 0 As,h⟩ with
  | none=>rw [hx1] at hx;cases hx
  | some q =>
   obtain ⟨e,ds,σ1⟩:=q
   rw [hx1] at hx
   have leave:∀ (m:Option AV) (u:FrameMode) (E':Env) (a':Act) (w':World),xfin P fn h (xleave P F (xfun P F n) b ds m σ1)=some oc->ModeR m u->Ele (lentE fn.ntmps w I β h) E'->DefsR E'.pin ds E'.dl->Rep E' σ1.den a' w' →
    Leaves P fn a'.tmps (fun e w'=>∃ β' I' v,EndIs oc e v/\R β' (dom (hg oc.h)) I' w'.heap true oc.v v/\Inv β' I' (hg oc.h) w'.heap/\Fr (lentE 0 w I β h) β' I' (hg oc.h) w') a'.defers u w':=by
    intro m u E' a' w' hxf hmode hE hD hr'
    have hdl:a'.defers=E'.dl:=by obtain ⟨_,_,r'⟩:=hr';exact r'.defers
    rw [hdl]
    cases hxl:xleave P F (xfun P F n) b ds m σ1 with
    | none=>rw [hxl] at hxf;cases hxf
    | some q =>
     obtain ⟨m',σ2⟩:=q
     rw [hxl] at hxf
     refine xleave_ok hm F ih (hE.good hg') ds m m' σ1 σ2 E'.dl u w' hxl hD hr' hmode ?_
     rintro w2 u2 ⟨β2,I2,r2⟩ hm2
     cases m' with
     | none =>
      have hu2:u2=.returning:=hm2
      subst hu2
      simp only [xfin] at hxf
      cases hxr:xRes P fn h σ2 with
      | none=>rw [hxr] at hxf;cases hxf
      | some p =>
       obtain ⟨r,h'⟩:=p
       rw [hxr] at hxf
       simp only [Option.map_some,Option.some.injEq] at hxf
       subst hxf
       unfold xRes at hxr
       split at hxr
       case h_2=>cases hxr
       rename_i Xs hXs
       obtain ⟨rfl,ns,q1,q2,q3⟩:=cleanX_spec hxr
       obtain ⟨v,hv,hRv⟩:=results_run (P:=P) r2 hXs
       have:=clean_fin r2.inv (r2.fr.ele hE) hRv q1 q2 q3
       exact ⟨v,hv,β2,I2,v,rfl,this.1,this.2.1,this.2.2⟩
     | some pv =>
      obtain ⟨v,hcv,rfl⟩:=hm2
      simp only [xfin] at hxf
      cases hxr:cleanX h .top σ2.h with
      | none=>rw [hxr] at hxf;cases hxf
      | some p =>
       obtain ⟨r,h'⟩:=p
       rw [hxr] at hxf
       simp only [Option.map_some,Option.some.injEq] at hxf
       subst hxf
       obtain ⟨_,ns,q1,q2,q3⟩:=cleanX_spec hxr
       have:=clean_fin (v:=undef) r2.inv (r2.fr.ele hE) (.top _ _) q1 q2 q3
       exact ⟨β2,I2,v,rfl,hcv _ _ _ _ _,this.2.1,this.2.2⟩
   refine wp_mono (xtop_ok hm ih F c [] ds _ σ1 e hx1 _ hg' rfl .nil _ w ⟨β,I,hr⟩) fun e' a' w' ⟨E',q0,q1,q2,q3⟩=>?_
   cases e with
   | normal=>obtain rfl:e'=.normal:=q2;exact leave none .returning E' a' w' hx rfl q0 q1 q3
   | ret=>obtain rfl:e'=.ret:=q2;exact leave none .returning E' a' w' hx rfl q0 q1 q3
   | exit i=>cases hx
   | pan v=>obtain ⟨u,hu,rfl⟩:=q2;exact leave (some v) _ E' a' w' hx ⟨u,hu,rfl⟩ q0 q1 q3
end
end Go.Ac

