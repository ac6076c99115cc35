/- What is proved: the interpreter that is told; documents; how arguments read. No condition beyond those that each theorem names. -/
import Derived.Test.YteacgfebjekllaaGreatDoorMa4
import Derived.Below
import Derived.IntWalk
set_option linter.all false
namespace Go.Ac
open Go
def pinK (kp:List Nat) (E:Env):Prop:=∀ k p,E.pin k=some p->memN k kp=true
def SubK (kp:List Nat) (σ σ':AS):Prop:=∀ E,pinK kp E->∀ a w,Rep E σ.den a w->Rep E σ'.den a w
theorem SubK.refl (kp:List Nat) (σ:AS):SubK kp σ σ:=fun _ _ _ _ h=>h
theorem SubK.trans {kp:List Nat} {σ σ' σ'':AS} (h:SubK kp σ σ') (h':SubK kp σ' σ''):SubK kp σ σ'':=fun E hE a w r=>h' E hE a w (h E hE a w r)
mutual
theorem renF_clo (φ:Nat->Nat):∀ a:AV,a.clo=true->renF φ a=a
 | .gp _ _,h=>by simp [AV.clo] at h
 | .ge _ _ _,h=>by simp [AV.clo] at h
 | .gs _ _ _,h=>by simp [AV.clo] at h
 | .mp _,h=>by simp [AV.clo] at h
 | .agg cs,h=>by rw [renF,renFL_clo φ cs (by simpa [AV.clo] using h)]
 | .tup cs,h=>by rw [renF,renFL_clo φ cs (by simpa [AV.clo] using h)]
 | .fn f xs ys,h=>by
  simp only [AV.clo,Bool.and_eq_true] at h
  rw [renF,renFL_clo φ xs h.1,renFL_clo φ ys h.2]
 | .ifc t x,h=>by rw [renF,renF_clo φ x (by simpa [AV.clo] using h)]
 | .top,_=>rfl
 | .val _,_=>rfl
 | .str _,_=>rfl
 | .sl _ _ _,_=>rfl
 | .ip _ _,_=>rfl
theorem renFL_clo (φ:Nat->Nat):∀ l:List AV,cloL l=true->renFL φ l=l
 | [],_=>rfl
 | a::l,h=>by
  simp only [cloL,Bool.and_eq_true] at h
  rw [renFL,renF_clo φ a h.1,renFL_clo φ l h.2]
end
mutual
theorem nms_clo:∀ a:AV,a.clo=true->nms a=[]
 | .gp _ _,h=>by simp [AV.clo] at h
 | .ge _ _ _,h=>by simp [AV.clo] at h
 | .gs _ _ _,h=>by simp [AV.clo] at h
 | .mp _,h=>by simp [AV.clo] at h
 | .agg cs,h=>by rw [nms,nmsL_clo cs (by simpa [AV.clo] using h)]
 | .tup cs,h=>by rw [nms,nmsL_clo cs (by simpa [AV.clo] using h)]
 | .fn f xs ys,h=>by
  simp only [AV.clo,Bool.and_eq_true] at h
  rw [nms,nmsL_clo xs h.1,nmsL_clo ys h.2];rfl
 | .ifc t x,h=>by rw [nms,nms_clo x (by simpa [AV.clo] using h)]
 | .top,_=>rfl
 | .val _,_=>rfl
 | .str _,_=>rfl
 | .sl _ _ _,_=>rfl
 | .ip _ _,_=>rfl
theorem nmsL_clo:∀ l:List AV,cloL l=true->nmsL l=[]
 | [],_=>rfl
 | a::l,h=>by
  simp only [cloL,Bool.and_eq_true] at h
  rw [nmsL,nms_clo a h.1,nmsL_clo l h.2];rfl
end
def lkN:List (Nat×Nat)->Nat->Option Nat
 | [],_=>none
 | (k,n)::l,i=>if k=i then some n else lkN l i
inductive LeP (φ:Nat->Nat) (ph:List (Nat×Nat)):AV->AV->Prop where
 | top (a):LeP φ ph a .top
 | ren {a a'}:a=renF φ a'->(∀ n ∈ nms a',lkN ph n=none)->LeP φ ph a a'
 | nil {k n}:lkN ph k=some n->LeP φ ph (.val (.slice none 0 0)) (.gs k 0 0)
 | nilS {n}:LeP φ ph (.val (.slice none 0 0)) (.sl n [] [])
 | agg {cs cs'}:cs.length=cs'.length->(∀ (i:Nat) (a a':AV),cs[i]?=some a->cs'[i]?=some a'->LeP φ ph a a')->LeP φ ph (.agg cs) (.agg cs')
section
variable {β β':Nat->Plc} {D D' I:Nat->Prop} {H:Array Obj} {φ:Nat->Nat} {ph:List (Nat×Nat)}
theorem R.unP (K:∀ k,D' k->lkN ph k=none->β' k=β (φ k)) (Kp:∀ k n,lkN ph k=some n->D' k/\(β' k).z=0) {m:Bool} {a a':AV} (h:LeP φ ph a a'):∀ {v:Value},R β D I H true a v->(∀ n ∈ nms a',D' n)->R β' D' I H true a' v:=by
 induction h with
 | top a=>intro v _ _;exact .top _ _
 | ren e hn =>
  rename_i a a'
  intro v hR hD
  subst e
  have e:∀ k,(D' k/\lkN ph k=none)->β' k=β (φ k):=fun k h=>K k h.1 h.2
  have:=hR.unF (D':=fun k=>D' k/\lkN ph k=none) (β':=β') e a' (fun n hn'=>⟨hD n hn',hn n hn'⟩)
  exact this.keep ⟨fun k hk=>⟨hk.1,rfl⟩,fun b hb=>⟨hb,rfl⟩⟩
 | nil hk =>
  intro v hR hD
  have:=hR.val_inv
  subst this
  obtain ⟨h1,h2⟩:=Kp _ _ hk
  exact .gs h1 (Nat.le_refl _) (Nat.zero_le _) (.inl ⟨rfl,by rw [h2];omega⟩)
 | nilS =>
  intro v hR hD
  have:=hR.val_inv
  subst this
  exact .sl0
 | agg hl hc ih =>
  rename_i cs cs'
  intro v hR hD
  cases hR with
  | agg hR =>
   rename_i vs
   refine .agg ?_
   clear hc
   induction cs generalizing cs' vs with
   | nil =>
    cases hR
    cases cs' with
    | nil=>exact .nil _
    | cons x l=>simp at hl
   | cons c cs ihc =>
    cases cs' with
    | nil=>simp at hl
    | cons c' cs' =>
     cases hR with
     | cons h1 h2 =>
      refine .cons (ih 0 c c' rfl rfl h1 fun n hn=>hD n (by simp [nms,nmsL,hn])) (ihc (cs':=cs') (by simpa using hl) (fun i a a' ha ha'=>ih (i+1) a a' (by simpa using ha) (by simpa using ha')) (fun n hn=>hD n ?_) h2)
      simp only [nms] at hn ⊢
      simp [nmsL,hn]
end
def tOK (φ:Nat->Nat) (ph:List (Nat×Nat)) (t:List (Nat×AV)):List (Nat×AV)->Prop
 | []=>True
 | (i,a)::l=>LeP φ ph (tg t i) a/\tOK φ ph t l
def gOK (φ:Nat->Nat) (ph:List (Nat×Nat)) (h:List (Nat×GE)) (k:Nat) (g:GE):Prop :=
 match lkN ph k with
 | some n=>∃ e,g=.arr e n [] .own/\0<n
 | none=>(∃ el el',hg h (φ k)=some (.box el .own)/\g=.box el' .own/\el.isAgg=el'.isAgg/\LeP φ ph el el')\/(hg h (φ k)=some (renG φ g)/\∀ n ∈ geNms g,lkN ph n=none)
def hOK (φ:Nat->Nat) (ph:List (Nat×Nat)) (h:List (Nat×GE)):List (Nat×GE)->Prop
 | []=>True
 | (k,g)::l=>gOK φ ph h k g/\hOK φ ph h l
def allN (ks:List Nat):List Nat->Bool
 | []=>true
 | n::l=>if memN n ks=true then allN ks l else false
def liveT (ks:List Nat):List (Nat×AV)->Prop
 | []=>True
 | (_,a)::l=>allN ks (nms a)=true/\liveT ks l
def liveH (ks:List Nat):List (Nat×GE)->Prop
 | []=>True
 | (_,g)::l=>allN ks (geNms g)=true/\liveH ks l
def keepsK (φ:Nat->Nat) (ph:List (Nat×Nat)) (ks:List Nat):List Nat->Bool
 | []=>true
 | k::l=>memN k ks && decide (φ k=k) && (lkN ph k).isNone && keepsK φ ph ks l
structure MatchK (kp:List Nat) (f ph:List (Nat×Nat)) (σ σ':AS):Prop where
 b:(keepsK (rn f) ph (σ'.h.map (·.1)) kp && nodupN ((σ'.h.filter fun p=>(lkN ph p.1).isNone).map fun p=>rn f p.1) && nodupN (σ'.h.map (·.1)) && (ph.all fun p=>memN p.1 (σ'.h.map (·.1))))=true
 t:tOK (rn f) ph σ.t σ'.t
 h:hOK (rn f) ph σ.h σ'.h
 lt:liveT (σ'.h.map (·.1)) σ'.t
 lh:liveH (σ'.h.map (·.1)) σ'.h
theorem allN_spec {ks:List Nat}:∀ {l:List Nat},allN ks l=true->∀ n ∈ l,n ∈ ks
 | [],_,n,h=>by cases h
 | m::l,h,n,hn=>by
  simp only [allN] at h
  split at h
  ·rename_i hm
   rcases List.mem_cons.1 hn with rfl|hn
   ·exact (memN_iff _ _).1 hm
   ·exact allN_spec h n hn
  ·cases h
theorem liveT_spec {ks:List Nat}:∀ {t:List (Nat×AV)},liveT ks t->∀ i,∀ n ∈ nms (tg t i),n ∈ ks
 | [],_,i,n,hn=>by cases hn
 | (k,a)::t,h,i,n,hn=>by
  simp only [tg] at hn
  split at hn
  ·exact allN_spec h.1 n hn
  ·exact liveT_spec h.2 i n hn
theorem liveH_spec {ks:List Nat}:∀ {t:List (Nat×GE)},liveH ks t->∀ i g,hg t i=some g->∀ n ∈ geNms g,n ∈ ks
 | [],_,i,g,h,n,hn=>by cases h
 | (k,a)::t,h,i,g,hk,n,hn=>by
  simp only [hg] at hk
  split at hk
  ·cases hk;exact allN_spec h.1 n hn
  ·exact liveH_spec h.2 i g hk n hn
theorem tOK_spec {φ:Nat->Nat} {ph:List (Nat×Nat)} {t:List (Nat×AV)}:∀ {t':List (Nat×AV)},tOK φ ph t t'->∀ i,LeP φ ph (tg t i) (tg t' i)
 | [],_,i=>.top _
 | (k,a)::t',h,i=>by
  simp only [tg]
  split
  ·rename_i e;subst e;exact h.1
  ·exact tOK_spec h.2 i
theorem hOK_spec {φ:Nat->Nat} {ph:List (Nat×Nat)} {h:List (Nat×GE)}:∀ {h':List (Nat×GE)},hOK φ ph h h'->∀ i g,hg h' i=some g->gOK φ ph h i g
 | [],_,i,g,hi=>by cases hi
 | (k,a)::t',h,i,g,hi=>by
  simp only [hg] at hi
  split at hi
  ·rename_i e;subst e;cases hi;exact h.1
  ·exact hOK_spec h.2 i g hi
theorem keepsK_spec {φ:Nat->Nat} {ph:List (Nat×Nat)} {ks:List Nat}:∀ {l:List Nat},keepsK φ ph ks l=true->∀ k,memN k l=true->k ∈ ks/\φ k=k/\lkN ph k=none
 | [],_,k,h=>by simp [memN] at h
 | q::l,h,k,hk=>by
  simp only [keepsK,Bool.and_eq_true,decide_eq_true_eq,Option.isNone_iff_eq_none] at h
  obtain ⟨⟨⟨h1,h2⟩,h3⟩,h4⟩:=h
  rw [memN_iff] at hk
  rcases List.mem_cons.1 hk with rfl|hk
  ·exact ⟨(memN_iff _ _).1 h1,h2,h3⟩
  ·exact keepsK_spec h4 k ((memN_iff _ _).2 hk)
theorem hg_key {l:List (Nat×GE)} {k:Nat}:k ∈ l.map (·.1) ↔ dom (hg l) k:=by
 constructor
 ·intro h
  obtain ⟨g,hg⟩:=hg_some_of h
  simp [dom,hg]
 ·intro h
  obtain ⟨g,hgk⟩:=Option.isSome_iff_exists.1 h
  exact List.mem_map.2 ⟨_,hg_mem hgk,rfl⟩
theorem lkN_mem {ph:List (Nat×Nat)}:∀ {k n:Nat},lkN ph k=some n->(k,n) ∈ ph:=by
 induction ph with
 | nil=>intro k n h;cases h
 | cons p l ih =>
  obtain ⟨q,m⟩:=p
  intro k n h
  simp only [lkN] at h
  split at h
  ·rename_i e;subst e;cases h;simp
  ·simp [ih h]
theorem compat_of_gOK {φ:Nat->Nat} {ph:List (Nat×Nat)} {h:List (Nat×GE)} {k:Nat} {g:GE} (hk:gOK φ ph h k g) (hn:lkN ph k=none):∃ g0,hg h (φ k)=some g0/\(g0=renG φ g\/(∃ el el',g0=.box el .own/\g=.box el' .own)):=by
 unfold gOK at hk
 rw [hn] at hk
 rcases hk with ⟨el,el',h1,rfl,_⟩|⟨h1,_⟩
 ·exact ⟨_,h1,.inr ⟨el,el',rfl,rfl⟩⟩
 ·exact ⟨_,h1,.inl rfl⟩
theorem renG_compat_inv {φ:Nat->Nat} {g g':GE} (h:Compat (renG φ g) (renG φ g')):Compat g g':=by
 cases g with
 | arr e n els st =>
  cases g' with
  | arr e' n' els' st'=>cases st<;>cases st'<;>simp only [renG,Compat,renFL_len] at h ⊢<;>exact h
  | _=>cases st<;>simp [renG,Compat] at h
 | _=>simp [renG,Compat] at h
theorem not_compat_box {el:AV} {s:St} {g:GE}:¬ Compat (.box el s) g:=by simp [Compat]
theorem not_compat_box' {el:AV} {s:St} {g:GE}:¬ Compat g (.box el s):=by
 cases g with
 | arr e n els st=>cases st<;>simp [Compat]
 | _=>simp [Compat]
theorem isAgg_flat {a b:AV} (h:a.isAgg=b.isAgg):(a.flat=[a]/\b.flat=[b])\/∃ x y,a=.agg x/\b=.agg y:=by
 cases ha:a.isAgg with
 | true=>exact .inr ⟨_,_,AV.flat_isAgg ha,AV.flat_isAgg (h ▸ ha)⟩
 | false=>exact .inl ⟨AV.flat_notAgg ha,AV.flat_notAgg (h ▸ ha)⟩
theorem R.agg_inv' {β:Nat->Plc} {D I:Nat->Prop} {H:Array Obj} {m:Bool} {cs:List AV} {vs:List Value} (h:R β D I H m (.agg cs) (.agg vs.toArray)):RL β D I H m cs vs:=by
 generalize hu:Value.agg vs.toArray=u at h
 cases h with
 | agg q =>
  have h1:=Value.agg.inj hu
  have h2:=congrArg Array.toList h1
  simp only [List.toList_toArray] at h2
  subst h2;exact q
theorem sub_match {kp:List Nat} {f ph:List (Nat×Nat)} {σ σ':AS} (hM:MatchK kp f ph σ σ'):SubK kp σ σ':=by
 obtain ⟨hB,hT,hH,hlT,hlH⟩:=hM
 simp only [Bool.and_eq_true] at hB
 obtain ⟨⟨⟨b1,b2⟩,b3⟩,b4⟩:=hB
 rintro E hE a w ⟨β,I,r⟩
 let β':Nat->Plc:=fun k=>match lkN ph k with|some n=>⟨0,n,0⟩|none=>β (rn f k)
 have dm:∀ k g,hg σ'.h k=some g->dom (hg σ'.h) k:=fun k g h=>by simp [dom,h]
 have K:∀ k,dom (hg σ'.h) k->lkN ph k=none->β' k=β (rn f k):=fun k _ hk=>by simp only [β',hk]
 have Kp:∀ k n,lkN ph k=some n->dom (hg σ'.h) k/\(β' k).z=0:=fun k n hk=>by
  refine ⟨hg_key.1 ((memN_iff _ _).1 ?_),by simp only [β',hk]⟩
  exact List.all_eq_true.1 b4 _ (lkN_mem hk)
 have old:∀ k g,hg σ'.h k=some g->lkN ph k=none->∃ g0,hg σ.h (rn f k)=some g0/\(g0=renG (rn f) g\/(∃ el el',g0=.box el .own/\g=.box el' .own)):=fun k g hk hn=>compat_of_gOK (hOK_spec hH k g hk) hn
 have inj:∀ k k',dom (hg σ'.h) k->dom (hg σ'.h) k'->lkN ph k=none->lkN ph k'=none->rn f k=rn f k'->k=k':=by
  intro k k' hk hk' h1 h2 he
  have hnd:=nodup_of b2
  refine inj_of_nodup hnd k k' ?_ ?_ he
  ·obtain ⟨p,hp,rfl⟩:=List.mem_map.1 (hg_key.2 hk);exact List.mem_map.2 ⟨p,List.mem_filter.2 ⟨hp,by simp [h1]⟩,rfl⟩
  ·obtain ⟨p,hp,rfl⟩:=List.mem_map.1 (hg_key.2 hk');exact List.mem_map.2 ⟨p,List.mem_filter.2 ⟨hp,by simp [h2]⟩,rfl⟩
 have noph:∀ k g,hg σ'.h k=some g->Backed (β' k) g->lkN ph k=none:=by
  intro k g hk hb
  cases hp:lkN ph k with
  | none=>rfl
  | some n =>
   have:=hOK_spec hH k g hk
   unfold gOK at this
   rw [hp] at this
   obtain ⟨e,rfl,_⟩:=this
   have hb':(β' k).z ≠ 0:=hb
   simp only [β',hp] at hb'
   exact absurd rfl hb'
 have bk:∀ k g g0,hg σ'.h k=some g->lkN ph k=none->hg σ.h (rn f k)=some g0->(g0=renG (rn f) g\/(∃ el el',g0=.box el .own/\g=.box el' .own))->(Backed (β' k) g ↔ Backed (β (rn f k)) g0)/\g0.st=g.st:=by
  intro k g g0 hk hn h0 hc
  rw [K k (dm _ _ hk) hn]
  rcases hc with rfl|⟨el,el',rfl,rfl⟩
  ·exact ⟨(renG_backed _ _ _).symm,renG_st _ _⟩
  ·exact ⟨Iff.rfl,rfl⟩
 refine ⟨β',I,fun i=>?_,⟨fun k g hk=>?_,r.inv.imm,?_⟩,?_,r.size,r.defers⟩
 ·exact R.unP (m:=true) K Kp (tOK_spec hT i) (r.tmps i) fun n hn=>hg_key.1 (liveT_spec hlT i n hn)
 ·have hn:=fun n hn=>hg_key.1 (liveH_spec hlH k g hk n hn)
  have hgo:=hOK_spec hH k g hk
  unfold gOK at hgo
  cases hp:lkN ph k with
  | some n =>
   rw [hp] at hgo
   obtain ⟨e,rfl,h0⟩:=hgo
   exact ⟨by simp only [β',hp],h0,by simp,.inl ⟨by simp only [β',hp],rfl⟩⟩
  | none =>
   rw [hp] at hgo
   have hb:=K k (dm _ _ hk) hp
   rcases hgo with ⟨el,el',h1,rfl,hag,hle⟩|⟨h1,h2⟩
   ·obtain ⟨vs,T,g1,g2,g3,g4,g5,g6⟩:=r.inv.ge _ _ h1
    refine ⟨vs,T,by rw [hb];exact g1,by rw [hb];exact g2,?_,g4,fun e=>(by cases e),fun e=>by rw [hb];exact g6 e⟩
    have g3':RL β (dom (hg σ.h)) I w.heap true el.flat vs.toList:=g3
    show RL β' (dom (hg σ'.h)) I w.heap true el'.flat vs.toList
    rcases isAgg_flat hag with ⟨e1,e2⟩|⟨x,y,rfl,rfl⟩
    ·rw [e1] at g3';rw [e2]
     generalize vs.toList=l at g3'
     cases g3' with
     | cons q1 q2=>cases q2;exact .cons (R.unP (m:=true) K Kp hle q1 hn) (.nil _)
    ·exact R.agg_inv' (R.unP (m:=true) K Kp hle (.agg g3') hn)
   ·have e:∀ q,(dom (hg σ'.h) q/\lkN ph q=none)->β' q=β (rn f q):=fun q h=>K q h.1 h.2
    have:=(r.inv.ge _ _ h1).unG (D':=fun q=>dom (hg σ'.h) q/\lkN ph q=none) (β':=β') e ⟨dm _ _ hk,hp⟩ fun n hn'=>⟨hn n hn',h2 n hn'⟩
    exact this.keep ⟨fun q hq=>⟨hq.1,rfl⟩,fun b hb=>⟨hb,rfl⟩⟩ rfl (fun _=>rfl) (fun _=>Iff.rfl)
 ·intro k k' g g' hne h1 h2 hb1 hb2 he
  have n1:=noph k g h1 hb1
  have n2:=noph k' g' h2 hb2
  obtain ⟨g0,p1,p2⟩:=old k g h1 n1
  obtain ⟨g0',p1',p2'⟩:=old k' g' h2 n2
  have d1:dom (hg σ'.h) k:=dm _ _ h1
  have d2:dom (hg σ'.h) k':=dm _ _ h2
  have hne':rn f k ≠ rn f k':=fun e=>hne (inj k k' d1 d2 n1 n2 e)
  rw [K k d1 n1,K k' d2 n2] at he
  have:=r.inv.sep _ _ _ _ hne' p1 p1' ((bk k g g0 h1 n1 p1 p2).1.1 hb1) ((bk k' g' g0' h2 n2 p1' p2').1.1 hb2) he
  rcases p2 with rfl|⟨el,el',rfl,rfl⟩
  ·rcases p2' with rfl|⟨el,el',rfl,rfl⟩
   ·exact renG_compat_inv this
   ·exact absurd this not_compat_box'
  ·exact absurd this not_compat_box
 ·obtain ⟨f1,f2,f3,f4,f5,f6,f7,f8,f9⟩:=r.fr
  refine ⟨f1,f2,f3,f4,f5,f6,f7,fun k g hk hb hst=>?_,fun k p hp=>?_⟩
  ·have n1:=noph k g hk hb
   obtain ⟨g0,p1,p2⟩:=old k g hk n1
   have:=bk k g g0 hk n1 p1 p2
   rw [K k (dm _ _ hk) n1]
   exact f8 _ _ p1 (this.1.1 hb) (by rw [this.2];exact hst)
  ·obtain ⟨p1,p2,p3⟩:=f9 k p hp
   obtain ⟨q1,q2,q3⟩:=keepsK_spec b1 k (hE k p hp)
   refine ⟨p1,hg_key.1 q1,?_⟩
   rw [K k (hg_key.1 q1) q3,q2];exact p3
end Go.Ac

namespace Go.Ac
open Go
inductive LePL (φ:Nat->Nat) (ph:List (Nat×Nat)):List AV->List AV->Prop where
 | nil:LePL φ ph [] []
 | cons {a a' l l'}:LeP φ ph a a'->LePL φ ph l l'->LePL φ ph (a::l) (a'::l')
def noPh (ph:List (Nat×Nat)):List Nat->Bool
 | []=>true
 | n::l=>(lkN ph n).isNone && noPh ph l
theorem noPh_spec {ph:List (Nat×Nat)}:∀ {l:List Nat},noPh ph l=true->∀ n ∈ l,lkN ph n=none
 | [],_,n,h=>by cases h
 | m::l,h,n,hn=>by
  simp only [noPh,Bool.and_eq_true,Option.isNone_iff_eq_none] at h
  rcases List.mem_cons.1 hn with rfl|hn
  ·exact h.1
  ·exact noPh_spec h.2 n hn
section
variable {φ:Nat->Nat} {ph:List (Nat×Nat)} {h:List (Nat×GE)} {k:Nat}
theorem LePL.spec {l l':List AV} (h:LePL φ ph l l'):l.length=l'.length/\∀ (i:Nat) (a a':AV),l[i]?=some a->l'[i]?=some a'->LeP φ ph a a':=by
 induction h with
 | nil=>exact ⟨rfl,by intro i a a' h;simp at h⟩
 | cons h1 h2 ih =>
  refine ⟨by simp [ih.1],fun i a a' ha ha'=>?_⟩
  cases i with
  | zero=>simp at ha ha';subst ha ha';exact h1
  | succ i=>exact ih.2 i a a' (by simpa using ha) (by simpa using ha')
theorem LeP.aggL {l l':List AV} (h:LePL φ ph l l'):LeP φ ph (.agg l) (.agg l'):=.agg h.spec.1 h.spec.2
theorem LeP.eq {a a':AV} (e:a=renF φ a') (hn:noPh ph (nms a')=true):LeP φ ph a a':=.ren e (noPh_spec hn)
theorem LeP.same {a a':AV} (e:a=a') (hc:a'.clo=true):LeP φ ph a a':=.ren (by rw [renF_clo φ a' hc];exact e) (by rw [nms_clo _ hc];intro n hn;cases hn)
theorem gOK_ph {n:Nat} {e:TypeId} (hk:lkN ph k=some n) (hn:0<n):gOK φ ph h k (.arr e n [] .own):=by
 unfold gOK;rw [hk];exact ⟨e,rfl,hn⟩
theorem gOK_ph' {n:Nat} {e:TypeId} {els:List AV} (hk:lkN ph k=some n) (hn:0<n) (he:els=[]):gOK φ ph h k (.arr e n els .own):=by subst he;exact gOK_ph hk hn
theorem gOK_box {el el':AV} (hk:lkN ph k=none) (h1:hg h (φ k)=some (.box el .own)) (h2:el.isAgg=el'.isAgg) (h3:LeP φ ph el el'):gOK φ ph h k (.box el' .own):=by
 unfold gOK;rw [hk];exact .inl ⟨el,el',h1,rfl,h2,h3⟩
theorem gOK_eq {g:GE} (hk:lkN ph k=none) (h1:hg h (φ k)=some (renG φ g)) (h2:noPh ph (geNms g)=true):gOK φ ph h k g:=by
 unfold gOK;rw [hk];exact .inr ⟨h1,noPh_spec h2⟩
theorem gOK_arr {e:TypeId} {n:Nat} {els els':List AV} {st:St} (hk:lkN ph k=none) (h1:hg h (φ k)=some (.arr e n els st)) (h2:els=els') (h3:cloL els'=true):gOK φ ph h k (.arr e n els' st):=by
 unfold gOK;rw [hk];subst h2
 exact .inr ⟨by rw [h1];simp only [renG,renFL_clo φ _ h3],by simp only [geNms,nmsL_clo _ h3];intro n hn;cases hn⟩
theorem allN_clo {ks:List Nat} {a:AV} (hc:a.clo=true):allN ks (nms a)=true:=by rw [nms_clo a hc];rfl
theorem allN_cloL {ks:List Nat} {e:TypeId} {n:Nat} {els:List AV} {st:St} (hc:cloL els=true):allN ks (geNms (.arr e n els st))=true:=by
 show allN ks (nmsL els)=true
 rw [nmsL_clo els hc];rfl
theorem clo_append {a b:List AV}:cloL (a++b)=(cloL a && cloL b):=by
 induction a with
 | nil=>simp [cloL]
 | cons x l ih=>simp [cloL,ih,Bool.and_assoc]
end
end Go.Ac

namespace Go.Ac
open Go
def keysT:List (AV×AV)->Bool
 | []=>true
 | (.str _,_)::l=>keysT l
 | _::_=>false
def lookT:List (AV×AV)->List UInt8->Option AV
 | [],_=>none
 | (.str t,v)::l,s=>if s=t then some v else lookT l s
 | _::l,s=>lookT l s
def updT:List (AV×AV)->List UInt8->AV->List (AV×AV)
 | [],s,Z=>[(.str s,Z)]
 | (.str t,v)::l,s,Z=>if s=t then (.str s,Z)::l else (.str t,v)::updT l s Z
 | p::l,s,Z=>p::updT l s Z
theorem findT (s:List UInt8) (Z:AV):∀ (es:List (AV×AV)) (i0:Nat),keysT es=true->∃ r,findA es (.str s) i0=some r/\r.map (·.2)=lookT es s/\(match r with|some (i,_)=>i0<=i/\es.set (i - i0) (.str s,Z)=updT es s Z|none=>es++[(.str s,Z)]=updT es s Z)
 | [],i0,_=>⟨none,rfl,rfl,rfl⟩
 | (k,v)::l,i0,h=>by
  cases k with
  | str t =>
   simp only [keysT] at h
   by_cases e:s=t
   ·refine ⟨some (i0,v),?_,?_,Nat.le_refl _,?_⟩
    ·simp only [findA,kEq,decide_eq_true e]
    ·simp only [lookT,if_pos e,Option.map_some]
    ·simp only [updT,if_pos e,Nat.sub_self,List.set_cons_zero]
   ·obtain ⟨r,h1,h2,h3⟩:=findT s Z l (i0+1) h
    refine ⟨r,?_,?_,?_⟩
    ·simp only [findA,kEq,decide_eq_false e];exact h1
    ·simp only [lookT,if_neg e];exact h2
    ·cases r with
     | none=>simp only at h3 ⊢;simp only [updT,if_neg e];rw [List.cons_append,h3]
     | some q =>
      obtain ⟨i,u⟩:=q
      simp only at h3 ⊢
      refine ⟨by omega,?_⟩
      simp only [updT,if_neg e]
      rw [show i - i0=(i - (i0+1))+1 by omega,List.set_cons_succ,h3.2]
  | _=>simp [keysT] at h
def oLookQ (x y:Operand) (dst:Option Nat) (k:Nat) (Z:AV) (s:List UInt8) (ok:Bool):Option GE->Out
 | some (.map es .own)=>.req (keysT es=true) (.opt (lookT es s) fun ov=>oV [x,y] [k] dst (lookR Z ok (ov.map fun v=>(0,v))))
 | _=>.fail
def oLookupQ (σ:AS) (x y:Operand) (dst:Option Nat) (ok:Bool):AV->Option (Bool×AV)->AV->Out
 | .str s,some (true,Z),.mp k=>oLookQ x y dst k Z s ok (hg σ.h k)
 | _,_,_=>.fail
def oUpdQ (x y z:Operand) (k:Nat) (s:List UInt8) (Z:AV):Option GE->Out
 | some (.map es .own)=>.req (keysT es=true) (.eff ⟨none,.top,[(k,.map (updT es s Z) .own)]⟩ ⟨[x,y,z].flatMap rdN,[],[k],[k]⟩)
 | _=>.fail
def oMapUpdQ (σ:AS) (x y z:Operand) (Z:AV):AV->Option Nat->Option (Bool×AV)->AV->Out
 | .str s,none,some (true,_),.mp k=>oUpdQ x y z k s Z (hg σ.h k)
 | _,_,_,_=>.fail
def outQ (P:Program) (q:Bool) (σ:AS) (nf:Option Nat) (dst:Option Nat) (op:Op):Out :=
 match q with
 | false=>out P σ nf dst op
 | true=>match op with
  | .lookup T x y ok=>oLookupQ σ x y dst ok (evL σ y) (mapTy P T) (evL σ x)
  | .mapUpdate T x y z=>oMapUpdQ σ x y z (evL σ z) (evL σ y) dst (mapTy P T) (evL σ x)
  | .insert T x y z=>oMapUpdQ σ x y z (evL σ z) (evL σ y) dst (mapTy P T) (evL σ x)
  | op=>out P σ nf dst op
theorem lookR_idx (Z:AV) (ok:Bool) (r:Option (Nat×AV)):lookR Z ok ((r.map (·.2)).map fun v=>(0,v))=lookR Z ok r:=by
 cases r with
 | none=>rfl
 | some q=>obtain ⟨i,v⟩:=q;rfl
theorem oLookup_eq {σ:AS} {x y:Operand} {dst:Option Nat} {ok:Bool} {s:List UInt8} {Z:AV} {k:Nat} {es:List (AV×AV)} (hg':hg σ.h k=some (.map es .own)) (hk:keysT es=true) :
 oLookup σ x y dst ok (.str s) (some (true,Z)) (.mp k)=oV [x,y] [k] dst (lookR Z ok ((lookT es s).map fun v=>(0,v))):=by
 obtain ⟨r,h1,h2,_⟩:=findT s Z es 0 hk
 rw [<-h2,lookR_idx]
 simp only [oLookup,kKind,if_true,hg',oLookG,h1,oLookR]
theorem oMapUpd_eq {σ:AS} {x y z:Operand} {s:List UInt8} {Z Z':AV} {k:Nat} {es:List (AV×AV)} (hg':hg σ.h k=some (.map es .own)) (hk:keysT es=true) :
 oMapUpd σ x y z (.str s) Z none (some (true,Z')) (.mp k)=.eff ⟨none,.top,[(k,.map (updT es s Z) .own)]⟩ ⟨[x,y,z].flatMap rdN,[],[k],[k]⟩:=by
 obtain ⟨r,h1,_,h3⟩:=findT s Z es 0 hk
 have e:setM es (.str s) Z r=updT es s Z:=by
  cases r with
  | none=>exact h3
  | some q=>obtain ⟨i,v⟩:=q;exact h3.2
 simp only [oMapUpd,kKind,if_true,hg',oUpdG,h1,oUpdR,e]
end Go.Ac

namespace Go.Ac
open Go
inductive Ans where
 | ev (n:Nat)
 | br (b:Bool)
 | opt (x:Option AV)
 | byt (x:Option UInt8)
 | bys (l:Option (List UInt8))
 | lg
 | call (o:OutC)
 | loop (ks:List Nat) (e:XEnd) (σ:AS)
 | loopM (f ph:List (Nat×Nat)) (σ0:AS) (e:XEnd) (σ:AS)
 | fin (f ph:List (Nat×Nat)) (r:AV) (h:List (Nat×GE))
 | un
 | stop
structure Cfg where
 tl:List Nat:=[]
 lp:Bool:=false
 fin:Nat:=0
 nd:List Nat:=[]
 ol:Bool:=false
 fz:List (Nat×List Nat):=[]
 pd:List (Nat×Nat):=[]
 mq:Bool:=false
inductive Dsc where
 | fail (l:List Nat)
 | test (b:Bool)
 | opt (x:Option AV)
 | byt (x:Option UInt8)
 | unb (xs:List AV)
 | req (p:Prop)
 | call (f:FuncId) (As:List AV) (hs:List (Nat×GE))
 | loop (σ:AS)
 | fin (r:AV) (σ:AS)
def Holds:List Prop->Prop
 | []=>True
 | p::l=>p/\Holds l
def tick:List Ans->Option Ans×List Ans
 | []=>(none,[])
 | .ev 0::r=>tick r
 | .ev (n+1)::r=>(none,.ev n::r)
 | a::r=>(some a,r)
def skipEv:List Ans->List Ans
 | .ev _::r=>skipEv r
 | l=>l
abbrev Res (α:Type):=Except Dsc (α×List Ans×List Prop)
def bad {α:Type} (n:Nat):Res α:=.error (.fail [n])
def sTest (b:Bool) (as:List Ans) (cs:List Prop):Res Bool :=
 match tick as with
 | (none,r)=>match b with
  | true=>.ok (true,r,cs)
  | false=>.ok (false,r,cs)
 | (some (.br x),r)=>.ok (x,r,(b=x)::cs)
 | (some .stop,_)=>.error (.test b)
 | _=>bad 1
def sOpt (x:Option AV) (as:List Ans) (cs:List Prop):Res (Option AV) :=
 match tick as with
 | (none,r)=>match x with
  | some a=>.ok (some a,r,cs)
  | none=>.ok (none,r,cs)
 | (some (.opt y),r)=>.ok (y,r,(x=y)::cs)
 | (some .stop,_)=>.error (.opt x)
 | _=>bad 2
def sByt (x:Option UInt8) (as:List Ans) (cs:List Prop):Res (Option UInt8) :=
 match tick as with
 | (none,r)=>match x with
  | some a=>.ok (some a,r,cs)
  | none=>.ok (none,r,cs)
 | (some (.byt y),r)=>.ok (y,r,(x=y)::cs)
 | (some .stop,_)=>.error (.byt x)
 | _=>bad 3
def sUnb (xs:List AV) (as:List Ans) (cs:List Prop):Res (Option (List UInt8)) :=
 match tick as with
 | (none,r)=>match unb xs with
  | some a=>.ok (some a,r,cs)
  | none=>.ok (none,r,cs)
 | (some (.bys y),r)=>.ok (y,r,(unb xs=y)::cs)
 | (some .stop,_)=>.error (.unb xs)
 | _=>bad 4
def sReq (p:Prop) (d:Decidable p) (as:List Ans) (cs:List Prop):Res Unit :=
 match tick as with
 | (none,r)=>match d with
  | .isTrue _=>.ok ((),r,cs)
  | .isFalse _=>.error (.fail [903])
 | (some .lg,r)=>.ok ((),r,p::cs)
 | (some .stop,_)=>.error (.req p)
 | _=>bad 5
theorem sTest_ok {b x:Bool} {as as':List Ans} {cs cs':List Prop} (h:sTest b as cs=.ok (x,as',cs')) (hc:Holds cs'):Holds cs/\b=x:=by
 unfold sTest at h
 split at h
 ·split at h<;>(cases h;exact ⟨hc,rfl⟩)
 ·cases h;exact ⟨hc.2,hc.1⟩
 ·cases h
 ·cases h
theorem sOpt_ok {b x:Option AV} {as as':List Ans} {cs cs':List Prop} (h:sOpt b as cs=.ok (x,as',cs')) (hc:Holds cs'):Holds cs/\b=x:=by
 unfold sOpt at h
 split at h
 ·split at h<;>(cases h;exact ⟨hc,rfl⟩)
 ·cases h;exact ⟨hc.2,hc.1⟩
 ·cases h
 ·cases h
theorem sByt_ok {b x:Option UInt8} {as as':List Ans} {cs cs':List Prop} (h:sByt b as cs=.ok (x,as',cs')) (hc:Holds cs'):Holds cs/\b=x:=by
 unfold sByt at h
 split at h
 ·split at h<;>(cases h;exact ⟨hc,rfl⟩)
 ·cases h;exact ⟨hc.2,hc.1⟩
 ·cases h
 ·cases h
theorem sUnb_ok {xs:List AV} {x:Option (List UInt8)} {as as':List Ans} {cs cs':List Prop} (h:sUnb xs as cs=.ok (x,as',cs')) (hc:Holds cs'):Holds cs/\unb xs=x:=by
 unfold sUnb at h
 split at h
 ·split at h
  ·rename_i hu;cases h;exact ⟨hc,hu⟩
  ·rename_i hu;cases h;exact ⟨hc,hu⟩
 ·cases h;exact ⟨hc.2,hc.1⟩
 ·cases h
 ·cases h
theorem sReq_ok {p:Prop} {d:Decidable p} {as as':List Ans} {cs cs':List Prop} {u:Unit} (h:sReq p d as cs=.ok (u,as',cs')) (hc:Holds cs'):Holds cs/\p:=by
 unfold sReq at h
 split at h
 ·split at h
  ·cases h;exact ⟨hc,by assumption⟩
  ·cases h
 ·cases h;exact ⟨hc.2,hc.1⟩
 ·cases h
 ·cases h
abbrev CallS:=FuncId->List AV->List (Nat×GE)->Nat->List Ans->List Prop->Res OutC
def sBack (draw:Bool) (σ:AS) (fs:List Foot) (ex rt:List Nat) (dst:Option Nat) (hs:List (Nat×GE)) (o:OutC) (as:List Ans) (cs:List Prop):Res XR :=
 match xBack draw σ fs ex rt dst hs (some o) with
 | some r=>.ok (r,as,cs)
 | none=>bad 901
def sAt {α:Type} (l:List Nat):Dsc->Res α
 | .fail k=>.error (.fail (l++k))
 | e=>.error e
def sCallH (P:Program) (W:World) (G:Cfg) (cf:CallS) (b:Nat) (draw:Bool) (σ:AS) (fs:List Foot) (ex:List Nat) (f:FuncId) (As:List AV) (rt:List Nat) (dst:Option Nat) (hs:List (Nat×GE)) (as:List Ans) (cs:List Prop):Res XR :=
 if okLent P f As hs=true then
  match memN f G.tl with
  | true=>match skipEv as with
   | .call o::r=>sBack draw σ fs ex rt dst hs o r (MutC P W f As hs o::cs)
   | _=>.error (.call f As hs)
  | false=>match tick as with
  | (none,r)=>match cf f As hs (topN b σ.h) r cs with
   | .ok (o,as1,cs1)=>sBack draw σ fs ex rt dst hs o as1 cs1
   | .error e=>sAt [1000000+f] e
  | (some (.call o),r)=>sBack draw σ fs ex rt dst hs o r (MutC P W f As hs o::cs)
  | (some .stop,_)=>.error (.call f As hs)
  | _=>bad 6
 else .error (.fail [906,f])
def clG:GE->GE
 | .arr e n _ st=>.arr e n [] st
 | g=>g
def clH:List (Nat×GE)->List (Nat×GE)
 | []=>[]
 | (k,g)::l=>(k,clG g)::clH l
def cloHs:List (Nat×GE)->Prop
 | []=>True
 | (_,.arr _ _ els _)::l=>cloL els=true/\cloHs l
 | _::l=>cloHs l
theorem hg_clH:∀ (h:List (Nat×GE)) (k:Nat),hg (clH h) k=(hg h k).map clG
 | [],_=>rfl
 | (q,g)::l,k=>by
  simp only [clH,hg]
  split
  ·rfl
  ·exact hg_clH l k
theorem cloHs_at:∀ {h:List (Nat×GE)} {k:Nat} {e:TypeId} {n:Nat} {els:List AV} {st:St},cloHs h->hg h k=some (.arr e n els st)->cloL els=true
 | [],_,_,_,_,_,_,h=>by cases h
 | (q,g)::l,k,e,n,els,st,hc,h=>by
  have hl:cloHs l:=by
   cases g<;>first|exact hc|exact hc.2
  simp only [hg] at h
  split at h
  ·cases h
   exact hc.1
  ·exact cloHs_at hl h
theorem geNms_clG {h:List (Nat×GE)} {k:Nat} {g:GE} (hc:cloHs h) (hk:hg h k=some g):geNms (clG g)=geNms g:=by
 cases g with
 | arr e n els st =>
  have:=nmsL_clo els (cloHs_at hc hk)
  simp only [clG,geNms,nmsL,this]
 | _=>rfl
theorem reach_seen (h:List (Nat×GE)):∀ (n:Nat) (todo seen:List Nat) (k:Nat),memN k seen=true->memN k (reach h n todo seen)=true
 | 0,_,_,_,hk=>hk
 | _+1,[],_,_,hk=>hk
 | n+1,q::todo,seen,k,hk=>by
  rw [reach]
  split
  ·exact reach_seen h n todo seen k hk
  ·split
   ·exact reach_seen h n _ _ k (by simp only [memN];split<;>first|rfl|exact hk)
   ·exact reach_seen h n todo seen k hk
theorem reach_clH (h:List (Nat×GE)):∀ (n:Nat) (todo seen:List Nat),cloHs (subH (reach (clH h) n todo seen) h)->reach h n todo seen=reach (clH h) n todo seen
 | 0,_,_,_=>rfl
 | _+1,[],_,_=>rfl
 | n+1,q::todo,seen,hc=>by
  rw [reach] at hc
  rw [reach,reach]
  rw [hg_clH] at hc ⊢
  split
  ·rename_i e
   rw [if_pos e] at hc
   exact reach_clH h n todo seen hc
  ·rename_i e
   rw [if_neg e] at hc
   cases hq:hg h q with
   | none=>rw [hq] at hc;exact reach_clH h n todo seen hc
   | some g =>
    rw [hq] at hc
    simp only [Option.map_some] at hc ⊢
    have hm:memN q (reach (clH h) n (geNms (clG g)++todo) (q::seen))=true:=reach_seen _ n _ _ q (by simp [memN])
    have hg2:hg (subH (reach (clH h) n (geNms (clG g)++todo) (q::seen)) h) q=some g:=by rw [hg_subH,if_pos hm];exact hq
    have e2:=geNms_clG hc hg2
    rw [e2] at hc ⊢
    exact reach_clH h n _ _ hc
theorem liveAll_clH (h:List (Nat×GE)):∀ l:List Nat,liveAll (clH h) l=liveAll h l
 | []=>rfl
 | n::l=>by simp only [liveAll,hg_clH,Option.isSome_map,liveAll_clH h l]
theorem gesN_clH:∀ h:List (Nat×GE),cloHs h->gesN (clH h)=gesN h
 | [],_=>rfl
 | (k,g)::l,hc=>by
  have hl:cloHs l:=by
   cases g<;>first|exact hc|exact hc.2
  have h1:geNms (clG g)=geNms g:=by
   cases g with
   | arr e n els st=>simp only [clG,geNms,nmsL,nmsL_clo els hc.1]
   | _=>rfl
  simp only [clH,gesN,h1,gesN_clH l hl]
theorem lendable_clH:∀ h:List (Nat×GE),lendable (clH h)=lendable h
 | []=>rfl
 | (k,g)::l=>by
  have ih:=lendable_clH l
  cases g<;>simp only [clH,clG,lendable,ih]<;>rfl
theorem bigAll_clH:∀ h:List (Nat×GE),bigAll (clH h)=bigAll h
 | []=>rfl
 | (k,g)::l=>by simp only [clH,bigAll,bigAll_clH l]
theorem okLent_clH {P:Program} {f:FuncId} {As:List AV} {h:List (Nat×GE)} (hc:cloHs h) (hl:okLent P f As (clH h)=true):okLent P f As h=true:=by
 unfold okLent at hl ⊢
 rw [gesN_clH h hc,liveAll_clH,lendable_clH,bigAll_clH] at hl
 exact hl
def lentC (σ:AS) (As:List AV):List (Nat×GE):=subH (reach (clH σ.h) 4000 (nmsL As) []) σ.h
theorem lentC_eq {σ:AS} {As:List AV} (hc:cloHs (lentC σ As)):lentOf σ As=lentC σ As:=by
 unfold lentOf lentC at *
 rw [reach_clH σ.h 4000 _ _ hc]
def sCallO (P:Program) (W:World) (draw:Bool) (σ:AS) (fs:List Foot) (ex:List Nat) (f:FuncId) (As:List AV) (rt:List Nat) (dst:Option Nat) (hs:List (Nat×GE)) (as:List Ans) (cs:List Prop):Res XR :=
 if okLent P f As (clH hs)=true then
  match skipEv as with
  | .lg::r1=>match skipEv r1 with
   | .call o::r=>sBack draw σ fs ex rt dst hs o r (MutC P W f As hs o::cloHs hs::cs)
   | _=>.error (.call f As hs)
  | _=>.error (.req (cloHs hs))
 else .error (.fail [906,f])
def sK (P:Program) (W:World) (G:Cfg) (cf:CallS) (b:Nat) (draw:Bool) (σ:AS) (fs:List Foot) (ex:List Nat):Out->List Ans->List Prop->Res XR
 | .eff u f,as,cs=>.ok (.go (σ.up u) (addF draw ⟨ex++f.rt,f.wt,f.rh,f.wh⟩ fs),as,cs)
 | @Out.req p d o,as,cs =>
  match sReq p d as cs with
  | .ok (_,as1,cs1)=>sK P W G cf b draw σ fs ex o as1 cs1
  | .error e=>.error e
 | .ite c x y,as,cs =>
  match sTest c as cs with
  | .ok (true,as1,cs1)=>sK P W G cf b draw σ fs ex x as1 cs1
  | .ok (false,as1,cs1)=>sK P W G cf b draw σ fs ex y as1 cs1
  | .error e=>.error e
 | .opt x m,as,cs =>
  match sOpt x as cs with
  | .ok (y,as1,cs1)=>sK P W G cf b draw σ fs ex (m y) as1 cs1
  | .error e=>.error e
 | .byt x m,as,cs =>
  match sByt x as cs with
  | .ok (y,as1,cs1)=>sK P W G cf b draw σ fs ex (m y) as1 cs1
  | .error e=>.error e
 | .unb x m,as,cs =>
  match sUnb x as cs with
  | .ok (y,as1,cs1)=>sK P W G cf b draw σ fs ex (m y) as1 cs1
  | .error e=>.error e
 | .call f As rt dst,as,cs=>match G.ol && memN f G.tl with
  | true=>sCallO P W draw σ fs ex f As rt dst (lentC σ As) as cs
  | false=>sCallH P W G cf b draw σ fs ex f As rt dst (lentOf σ As) as cs
 | .fail,_,_=>bad 900
def sPan (draw:Bool) (σ:AS) (X:AV) (as:List Ans) (cs:List Prop):Res XR :=
 match xPan draw σ X with
 | some r=>.ok (r,as,cs)
 | none=>bad 911
def sSkip (draw:Bool) (σ:AS) (fs:List Foot) (dst:Option Nat) (d:Nat) (as:List Ans) (cs:List Prop):Res XR :=
 .ok (.go (σ.up ⟨dst,.val undef,[]⟩) (addF draw ⟨[d],dN dst,[],[]⟩ fs),as,cs)
def sGuard (P:Program) (W:World) (G:Cfg) (cf:CallS) (b:Nat) (draw:Bool) (σ:AS) (fs:List Foot) (dst:Option Nat) (op:Op) (d:Nat) (want:Bool):Res Bool->Res XR
 | .ok (c,as,cs)=>if c=want then sK P W G cf b draw σ fs [d] (outQ P G.mq σ (nfX b σ dst) dst op) as cs else sSkip draw σ fs dst d as cs
 | .error e=>.error e
def sO (P:Program) (W:World) (G:Cfg) (cf:CallS) (b:Nat) (all:List Oper) (draw:Bool) (σ:AS) (fs:List Foot) (dst:Option Nat) (op:Op) (as:List Ans) (cs:List Prop):Option (Nat×Bool)->Res XR
 | none=>match panOf op with
  | some x=>sPan draw σ (evL σ x) as cs
  | none=>sK P W G cf b draw σ fs [] (outQ P G.mq σ (nfX b σ dst) dst op) as cs
 | some (j,want) =>
  match dstOf all j with
  | some d =>
   match tg σ.t d with
   | .val (.bool c)=>sGuard P W G cf b draw σ fs dst op d want (sTest c as cs)
   | .val (.tuple ⟨[]⟩)=>sSkip draw σ fs dst d as cs
   | _=>bad 912
  | none=>bad 913
def sops (P:Program) (W:World) (G:Cfg) (cf:CallS) (b:Nat) (all:List Oper) (draw:Bool):List Oper->Nat->AS->List Foot->List Ans->List Prop->Res XR
 | [],_,σ,fs,as,cs=>.ok (.go σ fs,as,cs)
 | o::rest,i,σ,fs,as,cs =>
  match sO P W G cf b all draw σ fs o.dst o.op as cs o.guard with
  | .ok (.go σ1 fs1,as1,cs1)=>sops P W G cf b all draw rest (i+1) σ1 fs1 as1 cs1
  | .ok (.pan v σ1,as1,cs1)=>.ok (.pan v σ1,as1,cs1)
  | .error e=>sAt [i] e
def CFokS (P:Program) (W:World) (cf:CallS):Prop :=
 ∀ f As h b as cs o as' cs',cf f As h b as cs=.ok (o,as',cs')->callable P f=true->bigAll h=true->Holds cs'->Holds cs/\MutC P W f As h o
section
variable {P:Program} {W:World} {G:Cfg} {cf:CallS} {b:Nat} {draw:Bool}
noncomputable def oneC (f:FuncId) (As:List AV) (h:List (Nat×GE)) (o:OutC):CallF:=fun f' As' h' _ =>
 open Classical in if f'=f/\As'=As/\h'=h then some o else none
theorem oneC_ok {f:FuncId} {As:List AV} {h:List (Nat×GE)} {o:OutC} (hM:MutC P W f As h o):CFok P W (oneC f As h o):=by
 intro f' As' h' b o' hx _ _
 unfold oneC at hx
 split at hx
 ·rename_i e
  obtain ⟨rfl,rfl,rfl⟩:=e
  cases hx
  exact hM
 ·cases hx
theorem oneC_at {f:FuncId} {As:List AV} {h:List (Nat×GE)} {o:OutC} {b:Nat}:oneC f As h o f As h b=some o:=by
 unfold oneC;simp
theorem noC_ok:CFok P W (fun _ _ _ _=>none):=fun _ _ _ _ _ h=>by cases h
theorem sAt_ne {α:Type} {l:List Nat} {e:Dsc} {q:α×List Ans×List Prop} (h:(sAt l e:Res α)=.ok q):False:=by
 cases e<;>cases h
theorem sBack_ok {σ:AS} {fs:List Foot} {ex rt:List Nat} {dst:Option Nat} {hs:List (Nat×GE)} {o:OutC} {as as':List Ans} {cs cs':List Prop} {r:XR} (h:sBack draw σ fs ex rt dst hs o as cs=.ok (r,as',cs')) :
 xBack draw σ fs ex rt dst hs (some o)=some r/\cs'=cs:=by
 unfold sBack at h
 split at h
 ·rename_i hb;cases h;exact ⟨hb,rfl⟩
 ·cases h
theorem sK_ok (hcf:CFokS P W cf) {σ:AS} {fs:List Foot} {ex:List Nat} {r:XR} {as':List Ans} {cs':List Prop} (hc:Holds cs'):∀ {x:Out} {as:List Ans} {cs:List Prop},sK P W G cf b draw σ fs ex x as cs=.ok (r,as',cs') →
 Holds cs/\∃ c1:CallF,CFok P W c1/\xK P c1 b draw σ fs ex x=some r:=by
 intro x
 induction x with
 | eff u f=>intro as cs h;simp only [sK] at h;cases h;exact ⟨hc,_,noC_ok,rfl⟩
 | req p x ih =>
  rename_i d
  intro as cs h
  simp only [sK] at h
  split at h
  ·rename_i h1
   obtain ⟨q1,q2,q3,q4⟩:=ih h
   obtain ⟨p1,p2⟩:=sReq_ok h1 q1
   refine ⟨p1,q2,q3,?_⟩
   simp only [xK]
   split
   ·exact q4
   ·exact absurd p2 (by assumption)
  ·cases h
 | ite c x y ih1 ih2 =>
  intro as cs h
  simp only [sK] at h
  split at h
  ·rename_i h1
   obtain ⟨q1,q2,q3,q4⟩:=ih1 h
   obtain ⟨p1,p2⟩:=sTest_ok h1 q1
   subst p2
   exact ⟨p1,q2,q3,q4⟩
  ·rename_i h1
   obtain ⟨q1,q2,q3,q4⟩:=ih2 h
   obtain ⟨p1,p2⟩:=sTest_ok h1 q1
   subst p2
   exact ⟨p1,q2,q3,q4⟩
  ·cases h
 | opt x m ih =>
  intro as cs h
  simp only [sK] at h
  split at h
  ·rename_i h1
   obtain ⟨q1,q2,q3,q4⟩:=ih _ h
   obtain ⟨p1,p2⟩:=sOpt_ok h1 q1
   subst p2
   exact ⟨p1,q2,q3,q4⟩
  ·cases h
 | byt x m ih =>
  intro as cs h
  simp only [sK] at h
  split at h
  ·rename_i h1
   obtain ⟨q1,q2,q3,q4⟩:=ih _ h
   obtain ⟨p1,p2⟩:=sByt_ok h1 q1
   subst p2
   exact ⟨p1,q2,q3,q4⟩
  ·cases h
 | unb x m ih =>
  intro as cs h
  simp only [sK] at h
  split at h
  ·rename_i h1
   obtain ⟨q1,q2,q3,q4⟩:=ih _ h
   obtain ⟨p1,p2⟩:=sUnb_ok h1 q1
   subst p2
   exact ⟨p1,q2,q3,q4⟩
  ·cases h
 | call f As rt dst =>
  intro as cs h
  simp only [sK] at h
  split at h
  ·simp only [sCallO] at h
   split at h
   case isFalse=>cases h
   rename_i hl
   split at h
   ·split at h
    ·obtain ⟨b1,b2⟩:=sBack_ok h
     subst b2
     obtain ⟨hM,hcl,hc'⟩:=hc
     have e:=lentC_eq hcl
     have hl2:=okLent_clH hcl hl
     refine ⟨hc',oneC f As (lentOf σ As) _,oneC_ok (by rw [e];exact hM),?_⟩
     rw [<-e] at hl2 b1
     simp only [xK,xCallH,if_pos hl2,oneC_at]
     exact b1
    ·cases h
   ·cases h
  simp only [sCallH] at h
  split at h
  case isFalse=>cases h
  rename_i hl
  have hl':=hl
  simp only [okLent,Bool.and_eq_true] at hl'
  obtain ⟨⟨_,l3⟩,l4⟩:=hl'
  have key:∀ {o:OutC} {as1:List Ans} {cs1:List Prop},sBack draw σ fs ex rt dst (lentOf σ As) o as1 cs1=.ok (r,as',cs')->MutC P W f As (lentOf σ As) o->∃ c1:CallF,CFok P W c1/\xK P c1 b draw σ fs ex (.call f As rt dst)=some r:=by
   intro o as1 cs1 hb hM
   refine ⟨oneC f As (lentOf σ As) o,oneC_ok hM,?_⟩
   simp only [xK,xCallH,if_pos hl,oneC_at]
   exact (sBack_ok hb).1
  split at h
  ·split at h
   ·obtain ⟨b1,b2⟩:=sBack_ok h
    subst b2
    exact ⟨hc.2,key h hc.1⟩
   ·cases h
  split at h
  ·split at h
   ·rename_i h1
    obtain ⟨b1,b2⟩:=sBack_ok h
    subst b2
    obtain ⟨p1,p2⟩:=hcf _ _ _ _ _ _ _ _ _ h1 l4 l3 hc
    exact ⟨p1,key h p2⟩
   ·exact (sAt_ne h).elim
  ·obtain ⟨b1,b2⟩:=sBack_ok h
   subst b2
   exact ⟨hc.2,key h hc.1⟩
  ·cases h
  ·cases h
 | fail=>intro as cs h;cases h
theorem outQ_ok (hcf:CFokS P W cf) {σ:AS} {fs:List Foot} {ex:List Nat} {r:XR} {as as':List Ans} {cs cs':List Prop} {q:Bool} {nf dst:Option Nat} {op:Op} (hc:Holds cs') (h:sK P W G cf b draw σ fs ex (outQ P q σ nf dst op) as cs=.ok (r,as',cs')) :
 Holds cs/\∃ c1:CallF,CFok P W c1/\xK P c1 b draw σ fs ex (out P σ nf dst op)=some r:=by
 have upd:∀ (T:TypeId) (x y z:Operand),sK P W G cf b draw σ fs ex (oMapUpdQ σ x y z (evL σ z) (evL σ y) dst (mapTy P T) (evL σ x)) as cs=.ok (r,as',cs') →
  Holds cs/\∃ c1:CallF,CFok P W c1/\xK P c1 b draw σ fs ex (oMapUpd σ x y z (evL σ y) (evL σ z) dst (mapTy P T) (evL σ x))=some r:=by
  intro T x y z h
  unfold oMapUpdQ at h
  split at h
  case h_2=>cases h
  rename_i s Z k h1 h2 h3 _
  rw [h1,h2,h3]
  unfold oUpdQ at h
  split at h
  case h_2=>cases h
  rename_i es he
  simp only [sK] at h
  split at h
  case h_2=>cases h
  rename_i as1 cs1 h4
  cases h
  obtain ⟨p1,p2⟩:=sReq_ok h4 hc
  exact ⟨p1,_,noC_ok,by rw [oMapUpd_eq he p2];rfl⟩
 unfold outQ at h
 split at h
 ·exact sK_ok hcf hc h
 ·split at h
  ·rename_i T x y ok
   show Holds cs/\∃ c1:CallF,CFok P W c1/\xK P c1 b draw σ fs ex (oLookup σ x y dst ok (evL σ y) (mapTy P T) (evL σ x))=some r
   unfold oLookupQ at h
   split at h
   case h_2=>cases h
   rename_i s Z k h1 h2 h3
   rw [h1,h2,h3]
   unfold oLookQ at h
   split at h
   case h_2=>cases h
   rename_i es he
   simp only [sK] at h
   split at h
   case h_2=>cases h
   rename_i as1 cs1 h4
   split at h
   case h_2=>cases h
   rename_i ov as2 cs2 h5
   simp only [oV,sK] at h
   cases h
   obtain ⟨p1,p2⟩:=sOpt_ok h5 hc
   obtain ⟨p3,p4⟩:=sReq_ok h4 p1
   refine ⟨p3,_,noC_ok,?_⟩
   rw [oLookup_eq he p4,p2]
   rfl
  ·exact upd _ _ _ _ h
  ·exact upd _ _ _ _ h
  ·exact sK_ok hcf hc h
theorem sO_ok (hcf:CFokS P W cf) {all:List Oper} {σ:AS} {fs:List Foot} {dst:Option Nat} {op:Op} {gd:Option (Nat×Bool)} {r:XR} {as as':List Ans} {cs cs':List Prop} (h:sO P W G cf b all draw σ fs dst op as cs gd=.ok (r,as',cs')) (hc:Holds cs') :
 Holds cs/\∃ c1:CallF,CFok P W c1/\xO P c1 b all draw σ fs dst op gd=some r:=by
 cases gd with
 | none =>
  simp only [sO] at h
  simp only [xO]
  cases hp:panOf op
  all_goals (rw [hp] at h;simp only at h ⊢)
  case some =>
   unfold sPan at h
   split at h
   ·rename_i hp;cases h;exact ⟨hc,_,noC_ok,hp⟩
   ·cases h
  case none=>exact outQ_ok hcf hc h
 | some jw =>
  obtain ⟨j,want⟩:=jw
  simp only [sO] at h
  simp only [xO]
  split at h
  case h_2=>cases h
  rename_i d hd
  rw [hd]
  split at h
  ·rename_i c hcv
   simp only [hcv]
   unfold sGuard at h
   split at h
   ·rename_i c1 as1 cs1 h1
    split at h
    ·rename_i hw
     obtain ⟨q1,q2,q3,q4⟩:=outQ_ok hcf hc h
     obtain ⟨p1,p2⟩:=sTest_ok h1 q1
     subst p2
     exact ⟨p1,q2,q3,by simp only [if_pos hw];exact q4⟩
    ·rename_i hw
     unfold sSkip at h
     cases h
     obtain ⟨p1,p2⟩:=sTest_ok h1 hc
     subst p2
     exact ⟨p1,_,noC_ok,by simp only [if_neg hw]⟩
   ·cases h
  ·rename_i hcv
   simp only [hcv]
   unfold sSkip at h
   cases h
   exact ⟨hc,_,noC_ok,rfl⟩
  ·cases h
theorem sops_ok (hcf:CFokS P W cf) {all:List Oper} {F:AS->Prop} {as':List Ans} {cs':List Prop} (hc:Holds cs'):∀ (rest:List Oper) (i:Nat) {σ σ1:AS} {fs fs1:List Foot} {as:List Ans} {cs:List Prop},sops P W G cf b all draw rest i σ fs as cs=.ok (.go σ1 fs1,as',cs')->(draw=true->ordF (ancs all []) fs1.reverse 0=true)->F σ1 →
 Holds cs/\aops P W (nfX b) all draw rest σ fs F
 | [],i,σ,σ1,fs,fs1,as,cs,h,ho,hF=>by simp only [sops] at h;cases h;exact ⟨hc,ho,hF⟩
 | o::rest,i,σ,σ1,fs,fs1,as,cs,h,ho,hF=>by
  simp only [sops] at h
  split at h
  ·rename_i σ2 fs2 as1 cs1 h1
   obtain ⟨q1,q2⟩:=sops_ok hcf hc rest (i+1) h ho hF
   obtain ⟨p1,c1,p2,p3⟩:=sO_ok hcf h1 q1
   exact ⟨p1,xO_ok p2 p3 q2⟩
  ·cases h
  ·exact (sAt_ne h).elim
theorem sops_pan (hcf:CFokS P W cf) {E:Env} {ops:Array Oper} {Q:Exit->Act->World->Prop} {as':List Ans} {cs':List Prop} (hc:Holds cs'):∀ (rest:List Oper) (i0 i:Nat) {σ σ1:AS} {fs:List Foot} {v:AV} {as:List Ans} {cs:List Prop},(∀ i,rest[i]?=ops[i0+i]?)->sops P W G cf b ops.toList false rest i σ fs as cs=.ok (.pan v σ1,as',cs') →
 Holds cs/\(E.good W->dstAll E.N rest=true->∀ (a:Act) (w:World),Rep E σ.den a w →
  (∀ a' w' u,Rep E σ1.den a' w'->CV v u->Q (.panic [{v:=u,recovered:=false}]) a' w')->wpOps P ops Q ((List.range rest.length).map (i0+·)) a w)
 | [],i0,i,σ,σ1,fs,v,as,cs,hr,h=>by simp [sops] at h
 | o::rest,i0,i,σ,σ1,fs,v,as,cs,hr,h=>by
  have hi:ops[i0]?=some o:=by have:=hr 0;simpa using this.symm
  have hmap:(List.range rest.length).map ((i0+·) ∘ Nat.succ)=(List.range rest.length).map (i0+1+·):=by
   apply List.map_congr_left;intro x _;simp only [Function.comp];omega
  have hwp:∀ a w,wpOps P ops Q ((List.range (o::rest).length).map (i0+·)) a w=wpOp P ops Q i0 (wpOps P ops Q ((List.range rest.length).map (i0+1+·))) a w:=fun a w=>by
   rw [List.length_cons,List.range_succ_eq_map,List.map_cons,List.map_map,wpOps_cons,hmap,Nat.add_zero]
  simp only [hwp]
  simp only [sops] at h
  split at h
  ·rename_i σ2 fs2 as1 cs1 h1
   obtain ⟨q1,q2⟩:=sops_pan (E:=E) (ops:=ops) (Q:=Q) hcf hc rest (i0+1) (i+1) (fun i=>by have:=hr (i+1);rw [show i0+1+i=i0+(i+1) by omega];simpa using this) h
   obtain ⟨p1,c1,p2,p3⟩:=sO_ok hcf h1 q1
   refine ⟨p1,fun g hd a w hrep hk=>?_⟩
   simp only [dstAll,List.all_cons,Bool.and_eq_true] at hd
   refine op_go p2 hi p3 g (fun d hod=>?_) hrep fun a' w' hr'=>q2 g hd.2 a' w' hr' hk
   have:=hd.1;rw [hod] at this;simpa using this
  ·rename_i v1 σ2 as1 cs1 h1
   cases h
   obtain ⟨p1,c1,p2,p3⟩:=sO_ok hcf h1 hc
   exact ⟨p1,fun g hd a w hrep hk=>op_pan p2 hi p3 g hrep fun w' u=>hk a w' u⟩
  ·exact (sAt_ne h).elim
end
end Go.Ac

namespace Go.Ac
open Go Go.RowKit
end Go.Ac

namespace Go.Ac
open Go
def clGE (fs:List (Nat×GE)):GE->GE
 | .box el .own=>.box (clA fs el) .own
 | .arr e n els .own=>.arr e n (clL fs els) .own
 | g=>g
theorem clA_flat (fs:List (Nat×GE)) (a:AV):(clA fs a).flat=clL fs a.flat:=by
 cases a with
 | agg cs=>simp only [clA,AV.flat]
 | gp k c =>
  cases hl:lk fs k with
  | none=>simp only [clA,hl,AV.flat,clL]
  | some g=>cases g<;>simp only [clA,hl,AV.flat,clL]
 | gs k i len =>
  cases hl:lk fs k with
  | none=>simp only [clA,hl,AV.flat,clL]
  | some g =>
   cases g with
   | box el st=>simp only [clA,hl,AV.flat,clL]
   | map es st=>simp only [clA,hl,AV.flat,clL]
   | iter s p=>simp only [clA,hl,AV.flat,clL]
   | dead=>simp only [clA,hl,AV.flat,clL]
   | arr e n els st =>
    by_cases h:i+len<=els.length
    ·simp only [clA,hl,if_pos h,AV.flat,clL]
    ·simp only [clA,hl,if_neg h,AV.flat,clL]
 | _=>simp only [clA,AV.flat,clL]
theorem clL_len (fs:List (Nat×GE)):∀ l:List AV,(clL fs l).length=l.length
 | []=>rfl
 | a::l=>by simp [clL,clL_len fs l]
theorem clL_app (fs:List (Nat×GE)):∀ l k:List AV,clL fs (l++k)=clL fs l++clL fs k
 | [],_=>rfl
 | a::l,k=>by simp [clL,clL_app fs l k]
theorem flats_clL (fs:List (Nat×GE)):∀ l:List AV,flats (clL fs l)=clL fs (flats l)
 | []=>rfl
 | a::l=>by simp only [clL,flats,clL_app,clA_flat,flats_clL fs l]
theorem clL_mem (fs:List (Nat×GE)):∀ {l:List AV} {b:AV},b ∈ clL fs l->∃ a ∈ l,b=clA fs a
 | [],_,h=>by cases h
 | a::l,b,h=>by
  simp only [clL,List.mem_cons] at h
  rcases h with rfl|h
  ·exact ⟨a,by simp,rfl⟩
  ·obtain ⟨c,h1,h2⟩:=clL_mem fs h;exact ⟨c,by simp [h1],h2⟩
theorem frz_at {h:Nat->Option GE} {fs:List (Nat×GE)} (hfs:∀ p ∈ fs,h p.1=some p.2/\Frzable p.2):∀ p ∈ fs,frzH h fs p.1=some (frzGE p.2)/\Frzable p.2:=fun p hp=>by
 refine ⟨?_,(hfs p hp).2⟩
 unfold frzH
 cases hl:lk fs p.1 with
 | none =>
  exfalso
  have:∀ l:List (Nat×GE),p ∈ l->lk l p.1 ≠ none:=by
   intro l
   induction l with
   | nil=>intro h;cases h
   | cons q l ih =>
    intro hq
    obtain ⟨i',g'⟩:=q
    simp only [lk]
    split
    ·simp
    ·rename_i hne
     rcases List.mem_cons.1 hq with rfl|hq
     ·exact absurd rfl hne
     ·exact ih hq
  exact this fs hp hl
 | some g =>
  have:=(hfs _ (lk_mem hl)).1
  rw [(hfs p hp).1] at this
  cases this
  rfl
theorem sub_frz {σ:SS} {fs:List (Nat×GE)} (hfs:∀ p ∈ fs,σ.h p.1=some p.2/\Frzable p.2) :
 Sub σ ⟨fun i=>clA fs (σ.t i),fun i=>(frzH σ.h fs i).map (clGE fs)⟩:=by
 rintro E a w ⟨β,I,r⟩
 have r2:=r.freeze hfs
 have hf2:=frz_at hfs
 generalize hI:(fun b=>I b\/∃ p ∈ fs,Backed (β p.1) p.2/\(β p.1).b=b)=I2 at r2
 have hd:dom (fun i=>(frzH σ.h fs i).map (clGE fs))=dom (frzH σ.h fs):=by funext i;simp [dom]
 have back:∀ i g,(frzH σ.h fs i).map (clGE fs)=some g->∃ g0,frzH σ.h fs i=some g0/\g=clGE fs g0:=fun i g hi=>by
  cases h:frzH σ.h fs i with
  | none=>rw [h] at hi;cases hi
  | some g0=>rw [h] at hi;cases hi;exact ⟨g0,rfl,rfl⟩
 have hbk:∀ i g0,Backed (β i) (clGE fs g0)->Backed (β i) g0:=fun i g0 h=>by
  cases g0 with
  | box el st=>trivial
  | arr e n els st=>cases st<;>exact h
  | map es st=>trivial
  | iter s p=>trivial
  | dead=>exact h
 refine ⟨β,I2,fun i=>?_,⟨fun i g hi=>?_,r2.inv.imm,?_⟩,?_,r2.size,r2.defers⟩
 ·have:=R_clA r2 hf2 (r2.tmps i)
  show R β (dom fun i=>(frzH σ.h fs i).map (clGE fs)) _ _ _ _ _
  rw [hd];exact this
 ·obtain ⟨g0,h0,rfl⟩:=back i g hi
  have h1:=r2.inv.ge i g0 h0
  show GEok β (dom fun i=>(frzH σ.h fs i).map (clGE fs)) _ _ _ _
  rw [hd]
  cases g0 with
  | arr e n els st =>
   cases st<;>try exact h1
   obtain ⟨g1,g2,g3,g4⟩:=h1
   refine ⟨g1,g2,fun b hb=>?_,?_⟩
   ·obtain ⟨a,ha,rfl⟩:=clL_mem _ hb
    rw [clA_flat,clL_len];exact g3 a ha
   rcases g4 with ⟨g4,rfl⟩|⟨g4,vs,g5,g6,g7,g8,g9,g10⟩
   ·exact .inl ⟨g4,rfl⟩
   ·refine .inr ⟨g4,vs,g5,g6,by rw [clL_len];exact g7,?_,by rw [clL_len];exact g9,g10⟩
    rw [clL_len,flats_clL];exact RL_clL r2 hf2 g8
  | map es st=>exact h1
  | iter s p=>exact h1
  | dead=>exact h1
  | box el st =>
   cases st<;>try exact h1
   obtain ⟨vs,T,g1,g2,g3,g4,g5,g6⟩:=h1
   exact ⟨vs,T,g1,g2,by rw [clA_flat];exact RL_clL r2 hf2 g3,g4,g5,g6⟩
 ·intro i i' g g' hne h1 h2 b1 b2 hb
  obtain ⟨g0,q1,rfl⟩:=back i g h1
  obtain ⟨g0',q2,rfl⟩:=back i' g' h2
  have:=r2.inv.sep i i' g0 g0' hne q1 q2 (hbk _ _ b1) (hbk _ _ b2) hb
  cases g0 with
  | box el st=>exact this.elim
  | map es st=>exact this.elim
  | iter s p=>exact this.elim
  | dead=>exact this.elim
  | arr e n els st =>
   cases g0' with
   | box el' st'=>cases st<;>exact this.elim
   | map el' st'=>cases st<;>exact this.elim
   | iter s p=>cases st<;>exact this.elim
   | dead=>cases st<;>exact this.elim
   | arr e' n' els' st'=>cases st<;>cases st'<;>first|exact this|exact this.elim
 ·obtain ⟨f1,f2,f3,f4,f5,f6,f7,f8,f9⟩:=r2.fr
  exact ⟨f1,f2,f3,f4,f5,f6,f7,fun k g hk=>by
   obtain ⟨g0,h0,rfl⟩:=back k g hk
   have:=f8 k g0 h0
   cases g0 with
   | arr e n els st=>cases st<;>exact this
   | map es st=>exact this
   | iter s p=>exact this
   | dead=>exact this
   | box el st=>cases st<;>exact this,fun k p hp=>⟨(f9 k p hp).1,by simpa using (f9 k p hp).2.1,(f9 k p hp).2.2⟩⟩
def clT (fs:List (Nat×GE)):List (Nat×AV)->List (Nat×AV)
 | []=>[]
 | (k,v)::l=>(k,clA fs v)::clT fs l
def frzG (fs:List (Nat×GE)) (g:GE):Option GE->GE
 | some g'=>clGE fs (frzGE g')
 | none=>clGE fs g
def frzL (fs:List (Nat×GE)):List (Nat×GE)->List (Nat×GE)
 | []=>[]
 | (k,g)::l=>(k,frzG fs g (lk fs k))::frzL fs l
theorem tg_clT (fs:List (Nat×GE)):∀ (l:List (Nat×AV)) (i:Nat),tg (clT fs l) i=clA fs (tg l i)
 | [],i=>by simp only [clT,tg,clA]
 | (k,v)::l,i=>by
  simp only [clT,tg]
  split
  ·rfl
  ·exact tg_clT fs l i
theorem hg_frzL (fs:List (Nat×GE)):∀ (l:List (Nat×GE)) (i:Nat),hg (frzL fs l) i=(hg l i).map fun g=>frzG fs g (lk fs i)
 | [],i=>rfl
 | (k,g)::l,i=>by
  simp only [frzL,hg]
  split
  ·rename_i e;subst e;rfl
  ·exact hg_frzL fs l i
def AS.frz (fs:List (Nat×GE)) (σ:AS):AS:=⟨clT fs σ.t,frzL fs σ.h⟩
theorem sub_frzA {σ:AS} (fs:List (Nat×GE)) (hfs:∀ p ∈ fs,hg σ.h p.1=some p.2/\Frzable p.2):Sub σ.den (σ.frz fs).den:=by
 have h:=sub_frz (σ:=σ.den) hfs
 have e:(σ.frz fs).den=⟨fun i=>clA fs (σ.den.t i),fun i=>(frzH σ.den.h fs i).map (clGE fs)⟩:=by
  simp only [AS.den,AS.frz]
  congr 1
  ·funext i;exact tg_clT fs σ.t i
  ·funext i
   rw [hg_frzL]
   unfold frzH
   cases hl:lk fs i with
   | none=>rfl
   | some g' =>
    have:=(hfs _ (lk_mem hl)).1
    simp only at this
    rw [this];rfl
 rw [e]
 exact h
end Go.Ac

namespace Go.Ac
open Go
def aopsP (Ψ:List Foot->Prop) (P:Program) (W:World) (nf:AS->Option Nat->Option Nat) (all:List Oper):List Oper->Kt
 | [],σ,fs,F=>Ψ fs.reverse/\F σ
 | o::rest,σ,fs,F=>aO P W nf all true (aopsP Ψ P W nf all rest) σ fs F o.dst o.op o.guard
section
variable {P:Program} {W:World} {ops:Array Oper} {Ψ:List Foot->Prop}
def KOKP (Ψ:List Foot->Prop) (P:Program) (W:World) (ops:Array Oper) (i0:Nat) (rest:List Oper) (k:Kt):Prop :=
 ∀ (σ:AS) (fs:List Foot) (F:AS->Prop),k σ fs F->∃ (effs:List Eff) (σ':AS),effs.length=rest.length/\(∀ (i:Nat) (f:Eff),effs[i]?=some f->StepW P W ops (i0+i) f)/\ReadsAll σ.den effs/\runs σ.den effs=σ'.den ∧
  (∀ (i:Nat) (f:Eff) (o:Oper),effs[i]?=some f->rest[i]?=some o->f.dst=o.dst)/\F σ'/\Ψ (fs.reverse++effs.map footOf)
theorem kok_consP {i0:Nat} {o:Oper} {rest:List Oper} {k:Kt} (hk:KOKP Ψ P W ops (i0+1) rest k) {σ:AS} {fs:List Foot} {F:AS->Prop} {u:Upd} {ft:Foot} {g:Eff}
 (hs:StepW P W ops i0 g) (hr:Reads σ.den g) (hf:footOf g=ft) (hu:(σ.up u).den=σ.den.upd g) (hd:g.dst=o.dst) (h:k (σ.up u) (addF true ft fs) F) :
 ∃ (effs:List Eff) (σ':AS),effs.length=(o::rest).length/\(∀ (i:Nat) (f:Eff),effs[i]?=some f->StepW P W ops (i0+i) f)/\ReadsAll σ.den effs/\runs σ.den effs=σ'.den ∧
  (∀ (i:Nat) (f:Eff) (o':Oper),effs[i]?=some f->(o::rest)[i]?=some o'->f.dst=o'.dst)/\F σ'/\Ψ (fs.reverse++effs.map footOf):=by
 obtain ⟨effs,σ',h1,h2,h3,h4,h5,h6,h7⟩:=hk _ _ _ h
 refine ⟨g::effs,σ',by simp [h1],?_,⟨hr,by rw [<-hu];exact h3⟩,by simp only [runs];rw [<-hu];exact h4,?_,h6,?_⟩
 ·intro i f hi
  cases i with
  | zero=>simp only [List.getElem?_cons_zero,Option.some.injEq] at hi;subst hi;exact hs
  | succ i=>simp only [List.getElem?_cons_succ] at hi;have:=h2 i f hi;rwa [show i0+(i+1)=i0+1+i by omega]
 ·intro i f o' hi ho
  cases i with
  | zero=>simp only [List.getElem?_cons_zero,Option.some.injEq] at hi ho;subst hi ho;exact hd
  | succ i=>simp only [List.getElem?_cons_succ] at hi ho;exact h5 i f o' hi ho
 ·have:=h7
  simp only [addF,cond_true,List.reverse_cons,List.append_assoc,List.singleton_append] at this
  rw [List.map_cons,hf]
  exact this
theorem aK_soundP {i0 d:Nat} {o:Oper} {rest:List Oper} {k:Kt} (hk:KOKP Ψ P W ops (i0+1) rest k) {σ:AS} {fs:List Foot} {F:AS->Prop} {ex:List Nat} (lift:Eff->Eff)
 (hl1:∀ f,LocalOKW P W o f->StepW P W ops i0 (lift f)) (hl2:∀ f,Reads σ.den f->Reads σ.den (lift f)) (hl3:∀ f,footOf (lift f)=⟨ex++(footOf f).rt,(footOf f).wt,(footOf f).rh,(footOf f).wh⟩)
 (hl4:∀ f,σ.den.upd (lift f)=σ.den.upd f) (hl5:∀ f,(lift f).dst=f.dst):∀ {x:Out},OutOK P W o σ x->aK P W true k σ fs F ex x →
 ∃ (effs:List Eff) (σ':AS),effs.length=(o::rest).length/\(∀ (i:Nat) (f:Eff),effs[i]?=some f->StepW P W ops (i0+i) f)/\ReadsAll σ.den effs/\runs σ.den effs=σ'.den ∧
  (∀ (i:Nat) (f:Eff) (o':Oper),effs[i]?=some f->(o::rest)[i]?=some o'->f.dst=o'.dst)/\F σ'/\Ψ (fs.reverse++effs.map footOf):=by
 have eff:∀ u ft,OutOK P W o σ (.eff u ft)->k (σ.up u) (addF true ⟨ex++ft.rt,ft.wt,ft.rh,ft.wh⟩ fs) F->∃ (effs:List Eff) (σ':AS),effs.length=(o::rest).length/\(∀ (i:Nat) (f:Eff),effs[i]?=some f->StepW P W ops (i0+i) f)/\ReadsAll σ.den effs/\runs σ.den effs=σ'.den ∧
  (∀ (i:Nat) (f:Eff) (o':Oper),effs[i]?=some f->(o::rest)[i]?=some o'->f.dst=o'.dst)/\F σ'/\Ψ (fs.reverse++effs.map footOf):=by
  rintro u ft ⟨g,q1,q2,q3,q4,q5⟩ h
  exact kok_consP hk (hl1 g q1) (hl2 g q2) (by rw [hl3,q3]) (by rw [hl4,q4]) (by rw [hl5,q5]) h
 intro x
 induction x with
 | eff u f=>exact fun ho h=>eff u f ho h
 | req p x ih=>exact fun ho h=>ih (ho h.1) h.2
 | ite b x y ih1 ih2 =>
  intro ho h
  cases b with
  | true=>exact ih1 (ho.1 rfl) (h.1 rfl)
  | false=>exact ih2 (ho.2 rfl) (h.2 rfl)
 | opt x m ih=>exact fun ho h=>ih x ho h
 | byt x m ih=>exact fun ho h=>ih x ho h
 | unb x m ih=>exact fun ho h=>ih (unb x) ho h
 | call f As rt dst =>
  rintro ho ⟨u,ft,h1,h2⟩
  exact eff u ft (h1 o ho) h2
 | fail=>exact fun _ h=>h.elim
theorem aO_kokP {nf:AS->Option Nat->Option Nat} (hnf:∀ σ d k,nf σ d=some k->hg σ.h k=none) {o:Oper} {rest:List Oper} {i0:Nat} {k:Kt} (hk:KOKP Ψ P W ops (i0+1) rest k) (hi:ops[i0]?=some o) {σ:AS} {fs:List Foot} {F:AS->Prop}
 (h:aO P W nf ops.toList true k σ fs F o.dst o.op o.guard) :
 ∃ (effs:List Eff) (σ':AS),effs.length=(o::rest).length/\(∀ (i:Nat) (f:Eff),effs[i]?=some f->StepW P W ops (i0+i) f)/\ReadsAll σ.den effs/\runs σ.den effs=σ'.den ∧
  (∀ (i:Nat) (f:Eff) (o':Oper),effs[i]?=some f->(o::rest)[i]?=some o'->f.dst=o'.dst)/\F σ'/\Ψ (fs.reverse++effs.map footOf):=by
 cases hg:o.guard with
 | none =>
  rw [hg] at h
  simp only [aO] at h
  exact aK_soundP (d:=0) hk id (fun f hf=>stepW_plain hi hg hf) (fun f hf=>hf) (fun f=>by simp) (fun f=>rfl) (fun f=>rfl) (out_ok (hnf _ _)) h
 | some jw =>
  obtain ⟨j,want⟩:=jw
  rw [hg] at h
  simp only [aO] at h
  cases hj:dstOf ops.toList j with
  | none=>rw [hj] at h;exact h.elim
  | some d =>
   rw [hj] at h
   simp only [aG] at h
   have hj':(ops[j]?).bind (·.dst)=some d:=by simpa [dstOf] using hj
   unfold aB at h
   split at h
   ·rename_i b hb
    by_cases hbw:b=want
    ·subst hbw
     have h1:=h.1 rfl
     exact aK_soundP (d:=d) hk (fun f=>{f with rt:=(d,.val (.bool b))::f.rt}) (fun f hf=>stepW_yes hi hg hj' hf) (fun f hf=>⟨fun p hp=>by
      rcases List.mem_cons.1 hp with rfl|hp
      ·exact hb
      ·exact hf.1 p hp,hf.2⟩) (fun f=>rfl) (fun f=>rfl) (fun f=>rfl) (out_ok (hnf _ _)) h1
    ·have hbw':b=!want:=by cases b<;>cases want<;>simp_all
     have h2:=h.2 hbw'
     refine kok_consP hk (g:={rt:=[(d,.val (.bool (!want)))],rh:=[],dst:=o.dst,v:=.val undef,wh:=[]}) (stepW_no hi hg hj') ⟨fun p hp=>by simp at hp;subst hp;rw [<-hbw'];exact hb,by simp⟩ ?_ (up_den _ _ _ rfl rfl rfl) rfl h2
     show Foot.mk _ _ _ _=Foot.mk _ _ _ _
     rw [keys_wT];rfl
   ·rename_i hb
    refine kok_consP hk (g:={rt:=[(d,.val undef)],rh:=[],dst:=o.dst,v:=.val undef,wh:=[]}) (stepW_un hi hg hj') ⟨fun p hp=>by simp at hp;subst hp;exact hb,by simp⟩ ?_ (up_den _ _ _ rfl rfl rfl) rfl h
    show Foot.mk _ _ _ _=Foot.mk _ _ _ _
    rw [keys_wT];rfl
   ·exact h.elim
theorem aops_kokP {nf:AS->Option Nat->Option Nat} (hnf:∀ σ d k,nf σ d=some k->hg σ.h k=none):∀ (rest:List Oper) (i0:Nat),(∀ i o,rest[i]?=some o->ops[i0+i]?=some o)->KOKP Ψ P W ops i0 rest (aopsP Ψ P W nf ops.toList rest)
 | [],i0,_=>by
  intro σ fs F h
  exact ⟨[],σ,rfl,by simp,trivial,rfl,by simp,h.2,by simpa using h.1⟩
 | o::rest,i0,hr=>by
  intro σ fs F h
  have hk:=aops_kokP hnf rest (i0+1) (fun i o' ho=>by have:=hr (i+1) o' (by simpa using ho);rwa [show i0+1+i=i0+(i+1) by omega])
  exact aO_kokP hnf hk (by have:=hr 0 o rfl;simpa using this) h
end
section
variable {P:Program} {W:World} {G:Cfg} {cf:CallS} {b:Nat}
theorem sops_okP (hcf:CFokS P W cf) {all:List Oper} {Ψ:List Foot->Prop} {F:AS->Prop} {as':List Ans} {cs':List Prop} (hc:Holds cs'):∀ (rest:List Oper) (i:Nat) {σ σ1:AS} {fs fs1:List Foot} {as:List Ans} {cs:List Prop},sops P W G cf b all true rest i σ fs as cs=.ok (.go σ1 fs1,as',cs')->Ψ fs1.reverse->F σ1 →
 Holds cs/\aopsP Ψ P W (nfX b) all rest σ fs F
 | [],i,σ,σ1,fs,fs1,as,cs,h,ho,hF=>by simp only [sops] at h;cases h;exact ⟨hc,ho,hF⟩
 | o::rest,i,σ,σ1,fs,fs1,as,cs,h,ho,hF=>by
  simp only [sops] at h
  split at h
  ·rename_i σ2 fs2 as1 cs1 h1
   obtain ⟨q1,q2⟩:=sops_okP hcf hc rest (i+1) h ho hF
   obtain ⟨p1,c1,p2,p3⟩:=sO_ok hcf h1 q1
   exact ⟨p1,xO_ok p2 p3 q2⟩
  ·cases h
  ·exact (sAt_ne h).elim
end
section
variable {P:Program} {W:World} {ops:Array Oper} {E:Env} {Q:Exit->Act->World->Prop} {fs:List Eff} {σ:SS}
theorem any_pan (g:E.good W) {p:Nat} (hpl:p<ops.size) (hl:fs.length=p) (hs:∀ i f,fs[i]?=some f->StepW P W ops i f) (hd:dstsOk E.N fs) (hra:ReadsAll σ fs) (he:edgesOk ops.toList 0=true) (ho:ordOk (ancs ops.toList []) fs 0=true)
 (hds:∀ j,p<j->j<ops.size->∃ as,(ancs ops.toList [])[j]?=some as/\p ∈ as)
 (hpan:∀ (L:Nat->Bool) (a:Act) (w:World) (K:Act->World->Prop),(∀ as,(ancs ops.toList [])[p]?=some as->∀ q ∈ as,L q=true)->(∀ j,p<=j->L j=false)->Rep E (stOn L σ fs) a w->wpOp P ops Q p K a w) :
 ∀ (fuel:Nat) (listed:Array Bool) (a:Act) (w:World),listed.size=ops.size->((List.range ops.size).filter fun i=>!Lof listed i).length<=fuel →
 (∀ (j:Nat) (o:Oper),ops[j]?=some o->Lof listed j=true->∀ e ∈ o.after.toList,Region.binds .any e=true->Lof listed e.on=true)->(∀ j,p<=j->Lof listed j=false) →
 Rep E (stOn (Lof listed) σ fs) a w->wpAny P .any ops Q fuel listed a w:=by
 have full:∀ (listed:Array Bool),listed.size=ops.size->Region.ready .any ops listed=[]->∀ i,i<ops.size->Lof listed i=true:=by
  intro listed hsz hrd i
  induction i using Nat.strongRecOn with
  | _ i ih =>
   intro hi
   cases hL:Lof listed i with
   | true=>rfl
   | false =>
    exfalso
    have hmem:i ∈ Region.ready .any ops listed:=by
     rw [mem_ready]
     have hgd:∀ b,listed.getD i b=listed[i]'(by omega):=fun b=>by simp [Array.getD,show i<listed.size by omega]
     refine ⟨hi,by rw [hgd];unfold Lof at hL;rwa [hgd] at hL,ops[i],by simp [hi],fun e hee hb=>?_⟩
     have hlt:=edgesOk_spec ops.toList 0 he i ops[i] (by simp [hi]) e hee hb
     exact ih e.on (by omega) (by omega)
    rw [hrd] at hmem
    cases hmem
 have fin:∀ (listed:Array Bool),listed.size=ops.size->Region.ready .any ops listed=[]->(∀ j,p<=j->Lof listed j=false)->False:=by
  intro listed hsz hrd hlt
  have:=full listed hsz hrd p hpl
  rw [hlt p (Nat.le_refl _)] at this
  cases this
 intro fuel
 induction fuel with
 | zero =>
  intro listed a w hsz hc hcl hlt hr
  have hrd:Region.ready .any ops listed=[]:=by
   apply List.eq_nil_iff_forall_not_mem.2
   intro i hi
   rw [mem_ready] at hi
   obtain ⟨h1,h2,_⟩:=hi
   have:i ∈ (List.range ops.size).filter fun i=>!Lof listed i:=by
    rw [List.mem_filter]
    refine ⟨List.mem_range.2 h1,?_⟩
    have hgd:∀ b,listed.getD i b=listed[i]'(by omega):=fun b=>by simp [Array.getD,show i<listed.size by omega]
    unfold Lof;rw [hgd] at h2 ⊢;simp [h2]
   have h0:=List.eq_nil_of_length_eq_zero (Nat.le_zero.1 hc)
   rw [h0] at this
   cases this
  exact (fin listed hsz hrd hlt).elim
 | succ fuel ih =>
  intro listed a w hsz hc hcl hlt hr
  refine ⟨fun hrd=>(fin listed hsz hrd hlt).elim,fun i hi=>?_⟩
  rw [mem_ready] at hi
  obtain ⟨hilt,hi1,o,hio,hi2⟩:=hi
  have hgd:∀ b,listed.getD i b=listed[i]'(by omega):=fun b=>by simp [Array.getD,show i<listed.size by omega]
  have hLi:Lof listed i=false:=by unfold Lof;rw [hgd] at hi1 ⊢;exact hi1
  have hanc:∀ (j:Nat) (as:List Nat),(ancs ops.toList [])[j]?=some as->∀ q ∈ as,Lof listed j=true->Lof listed q=true :=
   ancs_closed (fun j=>Lof listed j=true) ops.toList [] (by simp) (fun j o hj hS e hee hb=>hcl j o (by simpa using hj) (by simpa using hS) e hee hb)
  have hself:∀ (as:List Nat),(ancs ops.toList [])[i]?=some as->∀ q ∈ as,Lof listed q=true:=by
   intro as has q hqa
   have:=ancs_closed (fun j=>Lof listed j=true\/j=i) ops.toList [] (by simp) (fun j o' hj hS e hee hb=>by
    rcases hS with hS|hS
    ·exact .inl (hcl j o' (by simpa using hj) (by simpa using hS) e hee hb)
    ·simp only [List.length_nil,Nat.zero_add] at hS
     subst hS
     have:o'=o:=by
      have h1:ops[j]?=some o':=by simpa using hj
      rw [hio] at h1;cases h1;rfl
     subst this
     exact .inl (hi2 e hee hb)) i as has q hqa (.inr rfl)
   rcases this with h|h
   ·exact h
   ·-- q=i: not possible,its edges go back
    subst h
    exfalso
    have:=ancs_closed (fun j=>j<q\/(j=q)) ops.toList [] (by simp) (fun j o' hj hS e hee hb=>by
     have hlt:=edgesOk_spec ops.toList 0 he j o' hj e hee hb
     simp only [List.length_nil,Nat.zero_add] at hS hlt
     left;omega) q as has q hqa (.inr rfl)
    have strict:∀ (l:List Oper) (acc:List (List Nat)),(∀ (j:Nat) (as:List Nat),acc[j]?=some as->∀ i ∈ as,i<j)->(∀ (j:Nat) (o:Oper),l[j]?=some o->∀ e ∈ o.after.toList,Region.binds .any e=true->e.on<acc.length+j) →
     ∀ (j:Nat) (as:List Nat),(ancs l acc)[j]?=some as->∀ i ∈ as,i<j:=by
     intro l
     induction l with
     | nil=>intro acc h _;exact h
     | cons o l ih2 =>
      intro acc h h2
      refine ih2 _ ?_ ?_
      ·intro j as hj i hi
       by_cases hlt:j<acc.length
       ·rw [List.getElem?_append_left hlt] at hj
        exact h j as hj i hi
       ·rw [List.getElem?_append_right (by omega)] at hj
        have hj0:j=acc.length:=by
         cases hq:j - acc.length with
         | zero=>omega
         | succ q=>rw [hq] at hj;simp at hj
        subst hj0
        simp only [Nat.sub_self,List.getElem?_cons_zero,Option.some.injEq] at hj
        subst hj
        obtain ⟨e,hee,hi⟩:=List.mem_flatMap.1 hi
        obtain ⟨he1,he2⟩:=List.mem_filter.1 hee
        have hlt:=h2 0 o rfl e he1 he2
        rcases List.mem_cons.1 hi with rfl|hi
        ·omega
        ·cases hacc:acc[e.on]? with
         | none=>rw [hacc] at hi;simp at hi
         | some as'=>rw [hacc] at hi;have:=h e.on as' hacc i (by simpa using hi);omega
      ·intro j o' hj e hee hb
       have:=h2 (j+1) o' (by simpa using hj) e hee hb
       rw [List.length_append];simp;omega
    have:=strict ops.toList [] (by simp) (fun j o hj e hee hb=>by have:=edgesOk_spec ops.toList 0 he j o hj e hee hb;simpa using this) q as has q hqa
    omega
  by_cases hip:p<i
  ·obtain ⟨as,h1,h2⟩:=hds i hip hilt
   have:=hself as h1 p h2
   rw [hlt p (Nat.le_refl _)] at this;cases this
  by_cases hep:i=p
  ·subst hep
   exact hpan (Lof listed) a w _ hself hlt hr
  have hilp:i<p:=by omega
  obtain ⟨f,hf⟩:∃ f,fs[i]?=some f:=⟨fs[i]'(by omega),by simp [show i<fs.length by omega]⟩
  have free:∀ (j:Nat) (g:Eff),fs[j]?=some g->(j<i->Lof listed j=false->touch g f=false)/\(i<j->Lof listed j=true->touch f g=false):=by
   intro j g hg
   refine ⟨fun hji hLj=>?_,fun hij hLj=>?_⟩
   ·rcases ordOk_spec _ fs 0 ho j i g f hji hg hf with h|⟨as,has,hm⟩
    ·exact h
    ·rw [Nat.zero_add] at has hm
     rw [hself as has j hm] at hLj;cases hLj
   ·rcases ordOk_spec _ fs 0 ho i j f g hij hf hg with h|⟨as,has,hm⟩
    ·exact h
    ·rw [Nat.zero_add] at has hm
     rw [hanc j as has i hm hLj] at hLi;cases hLi
  have hread:=readsAll_at fs σ 0 hra i f hf
  simp only [Nat.zero_add] at hread
  have hreads:Reads (stOn (Lof listed) σ fs) f:=by
   refine ⟨fun p hp=>?_,fun p hp=>?_⟩
   ·have:=hread.1 p hp
    rw [<-this]
    refine seqOn_congr _ _ p.1 (fs.map wT) 0 _ _ rfl fun j w hj hne=>?_
    rw [Nat.zero_add] at hne
    rw [List.getElem?_map] at hj
    cases hg:fs[j]? with
    | none=>rw [hg] at hj;cases hj
    | some g' =>
     rw [hg] at hj;cases hj
     have hfr:=free j g' hg
     by_cases hji:j<i
     ·cases hL:Lof listed j with
      | true=>rw [hL] at hne;simp [hji] at hne
      | false =>
       intro hx
       exact ((touch_spec (hfr.1 hji hL)).1 p.1 hx).1 (keys_get hp)
     ·by_cases hij:i<j
      ·cases hL:Lof listed j with
       | false=>rw [hL] at hne;simp [hji] at hne
       | true=>exact (touch_spec (hfr.2 hij hL)).2.1 p.1 (keys_get hp)
      ·have:j=i:=by omega
       subst this
       rw [hLi] at hne;simp at hne
   ·have:=hread.2 p hp
    rw [<-this]
    refine seqOn_congr _ _ p.1 (fs.map (·.wh)) 0 _ _ rfl fun j w hj hne=>?_
    rw [Nat.zero_add] at hne
    rw [List.getElem?_map] at hj
    cases hg:fs[j]? with
    | none=>rw [hg] at hj;cases hj
    | some g' =>
     rw [hg] at hj;cases hj
     have hfr:=free j g' hg
     by_cases hji:j<i
     ·cases hL:Lof listed j with
      | true=>rw [hL] at hne;simp [hji] at hne
      | false =>
       intro hx
       exact ((touch_spec (hfr.1 hji hL)).2.2.1 p.1 hx).1 (keys_get hp)
     ·by_cases hij:i<j
      ·cases hL:Lof listed j with
       | false=>rw [hL] at hne;simp [hji] at hne
       | true=>exact (touch_spec (hfr.2 hij hL)).2.2.2 p.1 (keys_get hp)
      ·have:j=i:=by omega
       subst this
       rw [hLi] at hne;simp at hne
  have hLset:Lof (listed.setIfInBounds i true)=fun q=>if q=i then true else Lof listed q:=by
   funext q
   unfold Lof
   by_cases hq:q=i
   ·subst hq;simp [Array.getD,show q<listed.size by omega]
   ·rw [if_neg hq,Array.getD_eq_getD_getElem?,Array.getD_eq_getD_getElem?,Array.getElem?_setIfInBounds_ne (fun h=>hq h.symm)]
  have hupd:(stOn (Lof listed) σ fs).upd f=stOn (Lof (listed.setIfInBounds i true)) σ fs:=by
   rw [hLset]
   simp only [SS.upd,stOn,tset_put1,hset_put1]
   congr 1
   ·funext x
    refine (seqOn_insert (Lof listed) i x hLi (fs.map wT) 0 σ.t (wT f) (Nat.zero_le _) (by simp [hf]) fun j w hj hij hL hx=>?_).symm
    rw [Nat.zero_add] at hij hL
    rw [List.getElem?_map] at hj
    cases hg:fs[j]? with
    | none=>rw [hg] at hj;cases hj
    | some g' =>
     rw [hg] at hj;cases hj
     exact ((touch_spec ((free j g' hg).2 hij hL)).1 x hx).2
   ·funext x
    refine (seqOn_insert (Lof listed) i x hLi (fs.map (·.wh)) 0 σ.h f.wh (Nat.zero_le _) (by simp [hf]) fun j w hj hij hL hx=>?_).symm
    rw [Nat.zero_add] at hij hL
    rw [List.getElem?_map] at hj
    cases hg:fs[j]? with
    | none=>rw [hg] at hj;cases hj
    | some g' =>
     rw [hg] at hj;cases hj
     exact ((touch_spec ((free j g' hg).2 hij hL)).2.2.1 x hx).2
  refine hs i f hf E _ a w _ Q g (hd f (List.mem_of_getElem? hf)) hreads hr fun a' w' hr'=>?_
  rw [hupd] at hr'
  refine ih (listed.setIfInBounds i true) a' w' (by simp [hsz]) ?_ ?_ (fun j hj=>by rw [hLset];simp only;rw [if_neg (by omega)];exact hlt j hj) hr'
  ·-- one less is not listed
   have hlt:((List.range ops.size).filter fun q=>!Lof (listed.setIfInBounds i true) q).length<((List.range ops.size).filter fun q=>!Lof listed q).length:=by
    rw [hLset]
    exact filter_lt (fun x hx=>by by_cases e:x=i<;>simp_all) i (by simp [hLi]) (by simp) _ (List.mem_range.2 hilt)
   omega
  ·intro j o' hj hS e hee hb
   rw [hLset] at hS ⊢
   simp only at hS ⊢
   by_cases hei:e.on=i
   ·simp [hei]
   ·rw [if_neg hei]
    by_cases hji:j=i
    ·subst hji
     rw [hio] at hj;cases hj
     exact hi2 e hee hb
    ·rw [if_neg hji] at hS
     exact hcl j o' hj hS e hee hb
theorem region_pan {id:Nat} (hm:P.follows .mixedOrders=true) (g:E.good W) {a:Act} {w:World} {p:Nat} (hpl:p<ops.size) (hl:fs.length=p) (hs:∀ i f,fs[i]?=some f->StepW P W ops i f) (hd:dstsOk E.N fs) (hra:ReadsAll σ fs) (he:edgesOk ops.toList 0=true) (ho:ordOk (ancs ops.toList []) fs 0=true)
 (hds:∀ j,p<j->j<ops.size->∃ as,(ancs ops.toList [])[j]?=some as/\p ∈ as)
 (hpan:∀ (L:Nat->Bool) (a:Act) (w:World) (K:Act->World->Prop),(∀ as,(ancs ops.toList [])[p]?=some as->∀ q ∈ as,L q=true)->(∀ j,p<=j->L j=false)->Rep E (stOn L σ fs) a w->wpOp P ops Q p K a w)
 (hr:Rep E σ a w):(Code.region id ops true).wp P Q a w:=by
 refine wp_region_any hm ?_
 have hL0:∀ q,Lof (Array.replicate ops.size false) q=false:=fun q=>by
  unfold Lof
  rw [Array.getD_eq_getD_getElem?]
  cases h:(Array.replicate ops.size false)[q]? with
  | none=>rfl
  | some b =>
   have:=(Array.getElem?_eq_some_iff.1 h)
   obtain ⟨h1,h2⟩:=this
   simp at h2
   simp [h2]
 refine any_pan g hpl hl hs hd hra he ho hds hpan ops.size (Array.replicate ops.size false) a _ (by simp) ?_ (fun j o hj hS=>by rw [hL0] at hS;cases hS) (fun j _=>hL0 j) ?_
 ·have:=List.length_filter_le (fun i=>!Lof (Array.replicate ops.size false) i) (List.range ops.size)
  simpa using this
 ·have hnil:∀ {X:Type} (ws:List (List (Nat×X))) (j:Nat) (g:Nat->X),seqOn (Lof (Array.replicate ops.size false)) g ws j=g:=by
   intro X ws
   induction ws with
   | nil=>intro j g;rfl
   | cons w ws ih=>intro j g;simp only [seqOn,hL0,cond_false];exact ih _ _
  have:stOn (Lof (Array.replicate ops.size false)) σ fs=σ:=by
   unfold stOn
   rw [hnil,hnil]
  rw [this]
  exact hr.drew
end
def badS (as:List Nat):List Oper->Nat->List Nat
 | [],_=>[]
 | o::l,j=>match o.dst with
  | some d=>if as.contains j=true then badS as l (j+1) else d::badS as l (j+1)
  | none=>badS as l (j+1)
def dropS (ks:List Nat):List (Nat×AV)->List (Nat×AV)
 | []=>[]
 | (k,v)::l=>if memN k ks=true then dropS ks l else (k,v)::dropS ks l
def whOK (as:List Nat):List Foot->Nat->Bool
 | [],_=>true
 | f::l,j=>(as.contains j || f.wh.isEmpty) && whOK as l (j+1)
def descOk (A:List (List Nat)) (p n:Nat):Bool:=(List.range n).all fun j=>decide (j<=p) || ((A[j]?).getD []).contains p
theorem tg_dropS (ks:List Nat) (i:Nat):∀ l:List (Nat×AV),tg (dropS ks l) i=if i ∈ ks then .top else tg l i
 | []=>by simp [dropS,tg]
 | (k,v)::l=>by
  simp only [dropS]
  by_cases hm:memN k ks=true
  ·rw [if_pos hm,tg_dropS ks i l]
   by_cases hi:i ∈ ks
   ·rw [if_pos hi,if_pos hi]
   ·rw [if_neg hi,if_neg hi]
    simp only [tg]
    rw [if_neg (fun e=>by subst e;exact hi ((memN_iff _ _).1 hm))]
  ·rw [if_neg hm]
   simp only [tg]
   by_cases e:k=i
   ·subst e
    rw [if_pos rfl,if_pos rfl,if_neg (fun h=>hm ((memN_iff _ _).2 h))]
   ·rw [if_neg e,if_neg e,tg_dropS ks i l]
theorem badS_mem (as:List Nat):∀ (l:List Oper) (j0 j d:Nat) (o:Oper),l[j]?=some o->o.dst=some d->as.contains (j0+j)=false->d ∈ badS as l j0
 | [],j0,j,d,o,h,_,_=>by simp at h
 | o'::l,j0,j,d,o,h,hd,hc=>by
  cases j with
  | zero =>
   simp only [List.getElem?_cons_zero,Option.some.injEq] at h
   subst h
   rw [Nat.add_zero] at hc
   simp only [badS,hd,hc,Bool.false_eq_true,if_false]
   exact List.mem_cons_self ..
  | succ j =>
   have:=badS_mem as l (j0+1) j d o (by simpa using h) hd (by rwa [show j0+1+j=j0+(j+1) by omega])
   simp only [badS]
   split
   ·split
    ·exact this
    ·exact List.mem_cons_of_mem _ this
   ·exact this
theorem whOK_at (as:List Nat):∀ (l:List Foot) (j0 j:Nat) (f:Foot),whOK as l j0=true->l[j]?=some f->as.contains (j0+j)=false->f.wh=[]
 | [],_,j,f,_,h,_=>by simp at h
 | f'::l,j0,j,f,hw,h,hc=>by
  simp only [whOK,Bool.and_eq_true,Bool.or_eq_true] at hw
  cases j with
  | zero =>
   simp only [List.getElem?_cons_zero,Option.some.injEq] at h
   subst h
   rcases hw.1 with h1|h1
   ·rw [Nat.add_zero] at hc;rw [hc] at h1;cases h1
   ·exact List.isEmpty_iff.1 h1
  | succ j=>exact whOK_at as l (j0+1) j f hw.2 (by simpa using h) (by rwa [show j0+1+j=j0+(j+1) by omega])
def sRegP2 (N id:Nat) (ops:List Oper) (p:Nat) (fs:List Foot):Res XR->Res (XEnd×AS)
 | .ok (.pan v σ1,as2,cs2)=>if dstAll N ops=true/\(edgesOk ops 0 && (ordF (ancs ops []) fs.reverse 0 && (whOK (((ancs ops [])[p]?).getD []) fs.reverse 0 && descOk (ancs ops []) p ops.length)))=true then .ok ((.pan v,normX σ1),as2,cs2) else .error (.fail [id,941])
 | .ok _=>.error (.fail [id,942])
 | .error e=>sAt [id,p] e
def sRegP1 (P:Program) (W:World) (G:Cfg) (cf:CallS) (b N id:Nat) (ops:List Oper) (p:Nat) (σp:AS) (fs:List Foot) (as:List Ans) (cs:List Prop):Option Oper->Res (XEnd×AS)
 | some o=>sRegP2 N id ops p fs (sO P W G cf b ops false ⟨dropS (badS (((ancs ops [])[p]?).getD []) (ops.take p) 0) σp.t,σp.h⟩ [] o.dst o.op as cs o.guard)
 | none=>.error (.fail [id,943])
def sRegP (P:Program) (W:World) (G:Cfg) (cf:CallS) (b N id:Nat) (ops:List Oper) (p:Nat) (σ:AS) (as:List Ans) (cs:List Prop):Res (XEnd×AS) :=
 match sops P W G cf b ops true (ops.take p) 0 σ [] as cs with
 | .ok (.go σp fs,as1,cs1)=>sRegP1 P W G cf b N id ops p σp fs as1 cs1 ops[p]?
 | .ok _=>.error (.fail [id,944])
 | .error e=>sAt [id] e
section
variable {P:Program} {W:World} {G:Cfg} {cf:CallS} {b N:Nat}
theorem sRegP_ok (hm:P.follows .mixedOrders=true) (hcf:CFokS P W cf) {id p:Nat} {ops:Array Oper} {σ σ1:AS} {v:AV} {as as':List Ans} {cs cs':List Prop} {e:XEnd} (h:sRegP P W G cf b N id ops.toList p σ as cs=.ok ((e,σ1),as',cs')) (hc:Holds cs') :
 Holds cs/\∀ E,E.good W->E.N=N->∀ a w,Rep E σ.den a w->(Code.region id ops true).wp P (PostX E e σ1) a w:=by
 unfold sRegP at h
 split at h
 case h_2=>cases h
 case h_3=>exact (sAt_ne h).elim
 rename_i σp fsp as1 cs1 hx
 unfold sRegP1 at h
 split at h
 case h_2=>cases h
 rename_i o ho
 unfold sRegP2 at h
 split at h
 case h_2=>cases h
 case h_3=>exact (sAt_ne h).elim
 rename_i v σ2 as2 cs2 hy
 split at h
 case isFalse=>cases h
 rename_i hcnd
 cases h
 obtain ⟨hdst,hchk⟩:=hcnd
 simp only [Bool.and_eq_true] at hchk
 obtain ⟨c1,c2,c3,c4⟩:=hchk
 obtain ⟨q1,cf1,q2,q3⟩:=sO_ok hcf hy hc
 have hpo:p<ops.size:=by have:=(List.getElem?_eq_some_iff.1 ho).1;simpa using this
 have hlenp:(ops.toList.take p).length=p:=by rw [List.length_take];simp;omega
 obtain ⟨q4,q5⟩:=sops_okP (Ψ:=fun l=>ordF (ancs ops.toList []) l 0=true/\whOK (((ancs ops.toList [])[p]?).getD []) l 0=true) (F:=fun τ=>τ=σp) hcf q1 (ops.toList.take p) 0 hx ⟨c2,c3⟩ rfl
 refine ⟨q4,fun E g hN a w hr=>?_⟩
 have hpre:∀ i o',(ops.toList.take p)[i]?=some o'->ops[0+i]?=some o':=by
  intro i o' hi
  rw [List.getElem?_take] at hi
  split at hi
  ·rw [Nat.zero_add];simpa using hi
  ·cases hi
 obtain ⟨effs,σ',h1,h2,h3,h4,h5,h6,h7⟩:=aops_kokP (P:=P) (W:=W) (ops:=ops) (nfX_ok b) (ops.toList.take p) 0 hpre σ [] _ q5
 subst h6
 simp only [List.reverse_nil,List.nil_append] at h7
 rw [hlenp] at h1
 have hs:∀ i f,effs[i]?=some f->StepW P W ops i f:=fun i f hi=>by have:=h2 i f hi;rwa [Nat.zero_add] at this
 have heo:∀ (j:Nat) (f:Eff),effs[j]?=some f->∃ o':Oper,(ops.toList.take p)[j]?=some o'/\f.dst=o'.dst:=fun j f hj=>by
  have hlt:=(List.getElem?_eq_some_iff.1 hj).1
  have:(ops.toList.take p)[j]?=some ((ops.toList.take p)[j]'(by omega)):=List.getElem?_eq_getElem (by omega)
  exact ⟨_,this,h5 j f _ hj this⟩
 have hd:dstsOk E.N effs:=by
  intro f hf d hfd
  obtain ⟨j,hj⟩:=List.getElem?_of_mem hf
  obtain ⟨o',ho',hdo⟩:=heo j f hj
  have:=List.all_eq_true.1 hdst o' (by have:=hpre j o' ho';rw [Nat.zero_add] at this;exact List.mem_of_getElem? (l:=ops.toList) (i:=j) (by simpa using this))
  rw [<-hdo,hfd] at this
  rw [hN];simpa using this
 have hlf:effs.length=p:=h1
 refine region_pan (fs:=effs) (σ:=σ.den) hm g hpo hlf hs hd h3 c1 (by rw [ordOk_foot];exact h7.1) (fun j hj hjs=>?_) (fun L a w K hLa hLp hrep=>?_) hr
 ·have:=List.all_eq_true.1 c4 j (by rw [List.mem_range];simpa using hjs)
  simp only [Bool.or_eq_true,decide_eq_true_eq] at this
  rcases this with h|h
  ·omega
  ·cases hA:(ancs ops.toList [])[j]? with
   | none=>rw [hA] at h;simp at h
   | some as'=>rw [hA] at h;exact ⟨as',rfl,by simpa using h⟩
 ·have hi:ops[p]?=some o:=by simpa using ho
  have hmiss:∀ j,L (0+j) ≠ (fun _=>true) (0+j)->(((ancs ops.toList [])[p]?).getD []).contains (0+j)=false:=fun j hne=>by
   cases hc:(((ancs ops.toList [])[p]?).getD []).contains (0+j) with
   | false=>rfl
   | true =>
    exfalso
    cases hA:(ancs ops.toList [])[p]? with
    | none=>rw [hA] at hc;simp at hc
    | some as' =>
     rw [hA] at hc
     exact hne (hLa as' hA (0+j) (by simpa using hc))
  have hrep2:Rep E (AS.mk (dropS (badS (((ancs ops.toList [])[p]?).getD []) (ops.toList.take p) 0) σ'.t) σ'.h).den a w:=by
   have hh:(stOn L σ.den effs).h=σ'.den.h:=by
    rw [<-h4,runs_stOn effs σ.den 0]
    funext x
    refine seqOn_congr _ _ x (effs.map (·.wh)) 0 _ _ rfl fun j w' hj hne=>?_
    rw [List.getElem?_map] at hj
    cases hg:effs[j]? with
    | none=>rw [hg] at hj;cases hj
    | some f =>
     rw [hg] at hj;cases hj
     have hw:=whOK_at _ _ 0 j (footOf f) h7.2 (by rw [List.getElem?_map,hg];rfl) (hmiss j hne)
     have hk:keys f.wh=[]:=hw
     rw [hk];simp
   have ht:∀ i,i ∉ badS (((ancs ops.toList [])[p]?).getD []) (ops.toList.take p) 0->(stOn L σ.den effs).t i=σ'.den.t i:=fun i hi=>by
    rw [<-h4,runs_stOn effs σ.den 0]
    refine seqOn_congr _ _ i (effs.map wT) 0 _ _ rfl fun j w' hj hne=>?_
    rw [List.getElem?_map] at hj
    cases hg:effs[j]? with
    | none=>rw [hg] at hj;cases hj
    | some f =>
     rw [hg] at hj;cases hj
     obtain ⟨o',ho',hdo⟩:=heo j f hg
     intro hx
     unfold wT at hx
     cases hfd:f.dst with
     | none=>rw [hfd] at hx;simp [keys] at hx
     | some d =>
      rw [hfd] at hx
      simp only [keys,List.map_cons,List.map_nil,List.mem_singleton] at hx
      subst hx
      exact hi (badS_mem _ _ 0 j i o' ho' (by rw [<-hdo,hfd]) (hmiss j hne))
   obtain ⟨β,I,r⟩:=hrep
   have hst:stOn L σ.den effs=⟨(stOn L σ.den effs).t,σ'.den.h⟩:=by rw [<-hh]
   rw [hst] at r
   refine ⟨β,I,fun i=>?_,r.inv,r.fr,r.size,r.defers⟩
   show R β (dom (hg σ'.h)) I w.heap true (tg (dropS _ σ'.t) i) _
   rw [tg_dropS]
   split
   ·exact .top _ _
   ·rename_i hi
    have:=r.tmps i
    simp only at this
    rw [ht i hi] at this
    exact this
  exact op_pan q2 hi q3 g hrep2 fun w' u hr' hu=>⟨⟨u,hu,rfl⟩,sub_normX _ E a w' hr'⟩
end
end Go.Ac

namespace Go.Ac
open Go
def keepS (ks:List Nat):List (Nat×AV)->List (Nat×AV)
 | []=>[]
 | (k,v)::l=>if memN k ks=true then (k,v)::keepS ks l else keepS ks l
theorem tg_keepS (ks:List Nat):∀ (l:List (Nat×AV)) (i:Nat),tg (keepS ks l) i=tg l i\/tg (keepS ks l) i=.top
 | [],i=>.inl rfl
 | (k,v)::l,i=>by
  simp only [keepS]
  split
  ·simp only [tg];split
   ·exact .inl rfl
   ·exact tg_keepS ks l i
  ·rename_i hm
   simp only [tg];split
   ·rename_i e;subst e
    have:∀ l:List (Nat×AV),tg (keepS ks l) k=.top:=by
     intro l
     induction l with
     | nil=>rfl
     | cons p l ih =>
      obtain ⟨q,u⟩:=p
      simp only [keepS]
      split
      ·rename_i hq
       simp only [tg]
       split
       ·rename_i e;subst e;exact absurd hq hm
       ·exact ih
      ·exact ih
    exact .inr (this l)
   ·exact tg_keepS ks l i
theorem sub_keepS (kp ks:List Nat) (σ:AS):SubK kp σ ⟨keepS ks σ.t,σ.h⟩:=by
 rintro E hE a w ⟨β,I,r⟩
 refine ⟨β,I,fun i=>?_,r.inv,r.fr,r.size,r.defers⟩
 show R β (dom (hg σ.h)) I w.heap true (tg (keepS ks σ.t) i) _
 rcases tg_keepS ks σ.t i with e|e
 ·rw [e];exact r.tmps i
 ·rw [e];exact .top _ _
def keysA (h':List (Nat×GE)):List Nat->Bool
 | []=>true
 | k::l=>if (hg h' k).isSome=true then keysA h' l else false
theorem keysA_spec {h':List (Nat×GE)}:∀ {l:List Nat},keysA h' l=true->∀ k,memN k l=true->(hg h' k).isSome=true
 | [],_,k,hk=>by simp [memN] at hk
 | q::l,h,k,hk=>by
  simp only [keysA] at h
  split at h
  ·rename_i hq
   simp only [memN] at hk
   split at hk
   ·rename_i e;subst e;exact hq
   ·exact keysA_spec h k hk
  ·cases h
def prune3 (kp:List Nat) (t:List (Nat×AV)) (h:List (Nat×GE)):Option AS :=
 if liveAll h (nmsT t++gesN h)=true/\keysA h kp=true then some ⟨t,h⟩ else none
def pruneT (kp:List Nat) (h:List (Nat×GE)) (t:List (Nat×AV)):Option AS:=prune3 kp t (subH (reach h 4000 (nmsT t++kp) []) h)
def pruneK (kp ks:List Nat) (σ:AS):Option AS:=pruneT kp σ.h (keepS ks σ.t)
theorem pruneK_ok {kp ks:List Nat} {σ σ':AS} (h:pruneK kp ks σ=some σ'):SubK kp σ σ':=by
 unfold pruneK pruneT prune3 at h
 split at h
 case isFalse=>cases h
 rename_i hc
 cases h
 generalize hns:reach σ.h 4000 (nmsT (keepS ks σ.t)++kp) []=ns at hc
 rintro E hE a w ⟨β,I,r⟩
 have hlive:=liveAll_spec hc.1
 have old:∀ k g,hg (subH ns σ.h) k=some g->hg σ.h k=some g:=fun k g hk=>by
  rw [hg_subH] at hk
  split at hk
  ·exact hk
  ·cases hk
 refine ⟨β,I,fun i=>?_,⟨fun k g hk=>?_,r.inv.imm,fun k k' g g' hne h1 h2=>r.inv.sep k k' g g' hne (old k g h1) (old k' g' h2)⟩,?_,r.size,r.defers⟩
 ·show R β (dom (hg (subH ns σ.h))) I w.heap true (tg (keepS ks σ.t) i) _
  have hi:=r.tmps i
  rcases tg_keepS ks σ.t i with e|e
  ·have hi':R β (dom (hg σ.h)) I w.heap true (tg (keepS ks σ.t) i) (a.tmps.getD i undef):=by rw [e];exact hi
   exact hi'.dom fun n hn=>hlive n (List.mem_append.2 (.inl (nms_tg _ i n hn)))
  ·rw [e];exact .top _ _
 ·exact (r.inv.ge k g (old k g hk)).dom fun n hn=>hlive n (List.mem_append.2 (.inr (nms_hg _ k g n hk hn)))
 ·obtain ⟨f1,f2,f3,f4,f5,f6,f7,f8,f9⟩:=r.fr
  refine ⟨f1,f2,f3,f4,f5,f6,f7,fun k g hk=>f8 k g (old k g hk),fun k p hp=>?_⟩
  obtain ⟨p1,p2,p3⟩:=f9 k p hp
  exact ⟨p1,keysA_spec hc.2 k (hE k p hp),p3⟩
def sReg (P:Program) (W:World) (G:Cfg) (cf:CallS) (b N:Nat) (id:Nat) (ops:List Oper) (draw:Bool) (σ:AS) (as:List Ans) (cs:List Prop):Res (XEnd×AS) :=
 match sops P W G cf b ops draw ops 0 σ [] as cs with
 | .ok (.go σ1 fs,as1,cs1)=>if dstAll N ops=true/\okDraw ops draw fs=true then .ok ((.normal,normX σ1),as1,cs1) else .error (.fail [id,910])
 | .ok (.pan v σ1,as1,cs1)=>if dstAll N ops=true/\draw=false then .ok ((.pan v,normX σ1),as1,cs1) else .error (.fail [id,914])
 | .error e=>sAt [id] e
def LoopC (P:Program) (W:World) (kp:List Nat) (N:Nat) (x:Code) (σ:AS) (e:XEnd) (σ':AS):Prop :=
 ∃ m,∀ E,E.good W->E.N=N->pinK kp E->∀ a w,Rep E σ.den a w->Code.rounds P x (PostX E e σ') m a w
def BodyC (P:Program) (W:World) (kp:List Nat) (N:Nat) (x:Code) (σ:AS) (e:XEnd) (σ':AS):Prop :=
 ∀ E,E.good W->E.N=N->pinK kp E->∀ a w,Rep E σ.den a w->x.wp P (PostX E e σ') a w
def sLoop (P:Program) (W:World) (kp:List Nat) (N:Nat) (x:Code) (e:XEnd) (σ':AS) (as:List Ans) (cs:List Prop):Option AS->Res (XEnd×AS)
 | some σ0=>.ok ((e,σ'),as,LoopC P W kp N x σ0 e σ'::cs)
 | none=>bad 915
def sCond (σ:AS) (as:List Ans) (cs:List Prop):AV->Res Bool
 | .val (.bool b)=>sTest b as cs
 | _=>bad 916
def fzFor (id:Nat):List (Nat×List Nat)->List Nat
 | []=>[]
 | (i,ks)::l=>if i=id then ks else fzFor id l
def selA (h:List (Nat×GE)):List Nat->Option (List (Nat×GE))
 | []=>some []
 | k::ks=>match hg h k,selA h ks with
  | some (.arr e n els .own),some l=>some ((k,.arr e n els .own)::l)
  | _,_=>none
theorem selA_ok {h:List (Nat×GE)}:∀ {ks:List Nat} {fs:List (Nat×GE)},selA h ks=some fs->cloHs fs->∀ p ∈ fs,hg h p.1=some p.2/\Frzable p.2
 | [],fs,h1,_=>by cases h1;intro p hp;cases hp
 | k::ks,fs,h1,h2=>by
  simp only [selA] at h1
  split at h1
  ·rename_i e n els l hk hl
   cases h1
   intro p hp
   rcases List.mem_cons.1 hp with rfl|hp
   ·exact ⟨hk,h2.1⟩
   ·exact selA_ok hl h2.2 p hp
  ·cases h1
structure FrzTo (kp:List Nat) (σ:AS) (fs:List (Nat×GE)) (f ph:List (Nat×Nat)) (σ0:AS):Prop where
 clo:cloHs fs
 mat:∃ σ1,σ.frz fs=σ1/\MatchK kp f ph σ1 σ0
def sRegF (P:Program) (W:World) (G:Cfg) (cf:CallS) (kp:List Nat) (b N:Nat) (id:Nat) (ops:List Oper) (draw:Bool) (σ:AS) (as:List Ans) (cs:List Prop):Option (List (Nat×GE))->Res (XEnd×AS)
 | some fs=>match skipEv as with
  | .loopM f ph σ0 _ _::r=>sReg P W G cf b N id ops draw σ0 r (FrzTo kp ⟨keepS (σ0.t.map (·.1)) σ.t,σ.h⟩ fs f ph σ0::cs)
  | _=>.error (.loop σ)
 | none=>bad 924
def pdFor (id:Nat):List (Nat×Nat)->Option Nat
 | []=>none
 | (i,p)::l=>if i=id then some p else pdFor id l
def sRegQ (P:Program) (W:World) (G:Cfg) (cf:CallS) (b N:Nat) (id:Nat) (ops:List Oper) (draw:Bool) (σ:AS) (as:List Ans) (cs:List Prop):Option Nat->Res (XEnd×AS)
 | some p=>match draw with
  | true=>sRegP P W G cf b N id ops p σ as cs
  | false=>sReg P W G cf b N id ops false σ as cs
 | none=>sReg P W G cf b N id ops draw σ as cs
def scode (P:Program) (W:World) (G:Cfg) (cf:CallS) (kp:List Nat) (b N:Nat):Nat->Code->AS->List Ans->List Prop->Res (XEnd×AS)
 | 0,_,_,_,_=>bad 917
 | _+1,.skip,σ,as,cs=>.ok ((.normal,σ),as,cs)
 | _+1,.ret,σ,as,cs=>.ok ((.ret,σ),as,cs)
 | _+1,.exit i,σ,as,cs=>.ok ((.exit i,σ),as,cs)
 | _+1,.label _,σ,as,cs=>.ok ((.normal,σ),as,cs)
 | n+1,.scope c,σ,as,cs=>scode P W G cf kp b N n c σ as cs
 | _+1,.region id ops draw,σ,as,cs=>match fzFor id G.fz with
  | []=>sRegQ P W G cf b N id ops.toList draw σ as cs (pdFor id G.pd)
  | k::ks=>sRegF P W G cf kp b N id ops.toList draw σ as cs (selA σ.h (k::ks))
 | n+1,.seq x y,σ,as,cs =>
  match scode P W G cf kp b N n x σ as cs with
  | .ok ((.normal,σ1),as1,cs1)=>scode P W G cf kp b N n y σ1 as1 cs1
  | r=>r
 | n+1,.cond c x y,σ,as,cs =>
  match sCond σ as cs (evL σ c) with
  | .ok (true,as1,cs1)=>scode P W G cf kp b N n x σ as1 cs1
  | .ok (false,as1,cs1)=>scode P W G cf kp b N n y σ as1 cs1
  | .error e=>.error e
 | n+1,.block i x,σ,as,cs =>
  match scode P W G cf kp b N n x σ as cs with
  | .ok ((.exit j,σ1),as1,cs1)=>if j=i then .ok ((.normal,σ1),as1,cs1) else .ok ((.exit j,σ1),as1,cs1)
  | r=>r
 | n+1,.loop x,σ,as,cs =>
  match G.lp with
  | true=>match skipEv as with
   | .loop ks e σ'::r=>sLoop P W kp N x e σ' r cs (pruneK kp ks σ)
   | .loopM f ph σ0 e σ'::r=>.ok ((e,σ'),r,LoopC P W kp N x σ0 e σ'::MatchK kp f ph ⟨keepS (σ0.t.map (·.1)) σ.t,σ.h⟩ σ0::cs)
   | .un::r =>
    match scode P W G cf kp b N n x σ r cs with
    | .ok ((.normal,σ1),as1,cs1)=>scode P W G cf kp b N n (.loop x) σ1 as1 cs1
    | r=>r
   | _=>.error (.loop σ)
  | false=>match tick as with
  | (none,r) =>
   match scode P W G cf kp b N n x σ r cs with
   | .ok ((.normal,σ1),as1,cs1)=>scode P W G cf kp b N n (.loop x) σ1 as1 cs1
   | r=>r
  | (some (.loop ks e σ'),r)=>sLoop P W kp N x e σ' r cs (pruneK kp ks σ)
  | (some .stop,_)=>.error (.loop σ)
  | _=>bad 918
 | _+1,_,_,_,_=>bad 919
section
variable {P:Program} {W:World} {G:Cfg} {cf:CallS} {b N:Nat} {kp:List Nat}
theorem sReg_ok (hm:P.follows .mixedOrders=true) (hcf:CFokS P W cf) {id:Nat} {ops:Array Oper} {draw:Bool} {σ σ1:AS} {e:XEnd} {as as':List Ans} {cs cs':List Prop} (h:sReg P W G cf b N id ops.toList draw σ as cs=.ok ((e,σ1),as',cs')) (hc:Holds cs') :
 Holds cs/\BodyC P W kp N (.region id ops draw) σ e σ1:=by
 unfold sReg at h
 split at h
 ·rename_i σ2 fs as1 cs1 hx
  split at h
  case isFalse=>cases h
  rename_i hcnd
  cases h
  have key:∀ F:AS->Prop,F σ2->Holds cs/\aops P W (nfX b) ops.toList draw ops.toList σ [] F:=fun F hF =>
   sops_ok hcf hc ops.toList 0 hx (fun hd=>by subst hd;have:=hcnd.2;simp only [okDraw,Bool.and_eq_true] at this;exact this.2) hF
  refine ⟨(key (fun _=>True) trivial).1,fun E g hN hp a w hr=>?_⟩
  have:=run_regN (P:=P) (W:=W) (ops:=ops) (draw:=draw) (nfX_ok b) (N:=N) (k:=[]) (Q:=fun e τ=>e=.normal/\τ=(normX σ2).den) (σ:=σ) (id:=id) normX sub_normX hcnd.1
   (fun hd=>⟨hm,by subst hd;have:=hcnd.2;simp only [okDraw,Bool.and_eq_true] at this;exact this.1⟩)
   (fun F hF=>(key F (hF σ2 (run_nil ⟨rfl,rfl⟩))).2)
  refine wp_mono (this E g hN a w hr) fun e a' w' ⟨τ,hk,hr'⟩=>?_
  obtain ⟨h1,h2⟩:e=.normal/\τ=(normX σ2).den:=hk
  subst h1 h2
  exact ⟨rfl,hr'⟩
 ·rename_i v σ2 as1 cs1 hx
  split at h
  case isFalse=>cases h
  rename_i hcnd
  cases h
  obtain ⟨hd,rfl⟩:=hcnd
  refine ⟨(sops_pan (E:=⟨0,default,fun _=>False,fun _=>False,fun _=>none,[]⟩) (Q:=fun _ _ _=>True) (ops:=ops) hcf hc ops.toList 0 0 (fun i=>by simp) hx).1,fun E g hN hp a w hr=>?_⟩
  subst hN
  refine wp_region ?_
  have:=(sops_pan (E:=E) (Q:=PostX E (.pan v) (normX σ2)) hcf hc ops.toList 0 0 (fun i=>by simp) hx).2 g hd a w hr fun a' w' u hr' hu=>⟨⟨u,hu,rfl⟩,sub_normX σ2 E a' w' hr'⟩
  simpa using this
 ·exact (sAt_ne h).elim
theorem sRegQ_ok (hm:P.follows .mixedOrders=true) (hcf:CFokS P W cf) {id:Nat} {ops:Array Oper} {draw:Bool} {σ σ1:AS} {e:XEnd} {as as':List Ans} {cs cs':List Prop} {o:Option Nat} (h:sRegQ P W G cf b N id ops.toList draw σ as cs o=.ok ((e,σ1),as',cs')) (hc:Holds cs') :
 Holds cs/\BodyC P W kp N (.region id ops draw) σ e σ1:=by
 unfold sRegQ at h
 split at h
 ·split at h
  ·obtain ⟨q1,q2⟩:=sRegP_ok (v:=.top) hm hcf h hc
   exact ⟨q1,fun E g hN _ a w hr=>q2 E g hN a w hr⟩
  ·exact sReg_ok hm hcf h hc
 ·exact sReg_ok hm hcf h hc
theorem endX_other {E:Env} {e:XEnd} {σ1:AS} {Q:Exit->Act->World->Prop} {next:Act->World->Prop} (hne:e ≠ .normal) {e':Exit} {a':Act} {w':World} (q:PostX E e σ1 e' a' w') (hQ:PostX E e σ1 e' a' w'->Q e' a' w'):Exit.then next Q e' a' w':=by
 obtain ⟨q1,q2⟩:=q
 have q3:=hQ ⟨q1,q2⟩
 cases e with
 | normal=>exact absurd rfl hne
 | exit i=>obtain rfl:e'=.exit i:=q1;exact q3
 | ret=>obtain rfl:e'=.ret:=q1;exact q3
 | pan v=>obtain ⟨u,hu,rfl⟩:=q1;exact q3
theorem body_seq {x y:Code} {σ σ1 σ2:AS} {e:XEnd} (h1:BodyC P W kp N x σ .normal σ1) (h2:BodyC P W kp N y σ1 e σ2):BodyC P W kp N (.seq x y) σ e σ2:=by
 intro E g hN hp a w hr
 refine wp_seq (wp_mono (h1 E g hN hp a w hr) fun e' a' w' ⟨q1,q2⟩=>?_)
 obtain rfl:e'=.normal:=q1
 exact h2 E g hN hp a' w' q2
theorem body_seqE {x y:Code} {σ σ1:AS} {e:XEnd} (hne:e ≠ .normal) (h1:BodyC P W kp N x σ e σ1):BodyC P W kp N (.seq x y) σ e σ1:=fun E g hN hp a w hr =>
 wp_seq (wp_mono (h1 E g hN hp a w hr) fun e' a' w' q=>endX_other hne q fun q=>q)
theorem loop_next {x:Code} {σ σ1 σ2:AS} {e:XEnd} (h1:BodyC P W kp N x σ .normal σ1) (h2:LoopC P W kp N x σ1 e σ2):LoopC P W kp N x σ e σ2:=by
 obtain ⟨m,h2⟩:=h2
 refine ⟨m+1,fun E g hN hp a w hr=>?_⟩
 rw [rounds_succ]
 refine wp_mono (h1 E g hN hp a w hr) fun e' a' w' ⟨q1,q2⟩=>?_
 obtain rfl:e'=.normal:=q1
 exact h2 E g hN hp a' w' q2
theorem loop_last {x:Code} {σ σ1:AS} {e:XEnd} (hne:e ≠ .normal) (h1:BodyC P W kp N x σ e σ1):LoopC P W kp N x σ e σ1:=by
 refine ⟨1,fun E g hN hp a w hr=>?_⟩
 rw [rounds_succ]
 exact wp_mono (h1 E g hN hp a w hr) fun e' a' w' q=>endX_other hne q fun q=>q
theorem loop_body {x:Code} {σ σ1:AS} {e:XEnd} (h:LoopC P W kp N x σ e σ1):BodyC P W kp N (.loop x) σ e σ1:=by
 obtain ⟨m,h⟩:=h
 exact fun E g hN hp a w hr=>wp_loop_rounds m (h E g hN hp a w hr)
theorem body_sub {x:Code} {σ σ' σ1 σ2:AS} {e:XEnd} (h1:SubK kp σ σ') (h:BodyC P W kp N x σ' e σ1) (h2:SubK kp σ1 σ2):BodyC P W kp N x σ e σ2:=fun E g hN hp a w hr =>
 wp_mono (h E g hN hp a w (h1 E hp a w hr)) fun e' a' w' ⟨q1,q2⟩=>⟨q1,h2 E hp a' w' q2⟩
theorem loop_sub {x:Code} {σ σ' σ1:AS} {e:XEnd} (h1:SubK kp σ σ') (h:LoopC P W kp N x σ' e σ1):LoopC P W kp N x σ e σ1:=by
 obtain ⟨m,h⟩:=h
 exact ⟨m,fun E g hN hp a w hr=>h E g hN hp a w (h1 E hp a w hr)⟩
theorem scode_ok (hm:P.follows .mixedOrders=true) (hcf:CFokS P W cf):∀ (n:Nat),
 (∀ (c:Code) (σ σ1:AS) (e:XEnd) (as as':List Ans) (cs cs':List Prop),scode P W G cf kp b N n c σ as cs=.ok ((e,σ1),as',cs')->Holds cs'->Holds cs/\BodyC P W kp N c σ e σ1) ∧
 (∀ (c:Code) (σ σ1:AS) (e:XEnd) (as as':List Ans) (cs cs':List Prop),scode P W G cf kp b N n (.loop c) σ as cs=.ok ((e,σ1),as',cs')->Holds cs'->Holds cs/\LoopC P W kp N c σ e σ1)
 | 0=>⟨fun c σ σ1 e as as' cs cs' h=>by simp [scode,bad] at h,fun c σ σ1 e as as' cs cs' h=>by simp [scode,bad] at h⟩
 | n+1=>by
  obtain ⟨ih1,ih2⟩:=scode_ok hm hcf n
  have loops:∀ (c:Code) (σ σ1:AS) (e:XEnd) (as as':List Ans) (cs cs':List Prop),scode P W G cf kp b N (n+1) (.loop c) σ as cs=.ok ((e,σ1),as',cs')->Holds cs'->Holds cs/\LoopC P W kp N c σ e σ1:=by
   intro c σ σ1 e as as' cs cs' h hc
   simp only [scode] at h
   split at h
   ·split at h
    ·rename_i ks e1 σ' r _
     unfold sLoop at h
     split at h
     ·rename_i σ0 hp
      cases h
      exact ⟨hc.2,loop_sub (pruneK_ok hp) hc.1⟩
     ·cases h
    ·cases h
     exact ⟨hc.2.2,loop_sub ((sub_keepS kp _ σ).trans (sub_match hc.2.1)) hc.1⟩
    ·split at h
     ·rename_i σ2 as1 cs1 h1
      obtain ⟨q1,q2⟩:=ih2 c σ2 σ1 e _ _ _ _ h hc
      obtain ⟨p1,p2⟩:=ih1 c σ σ2 .normal _ _ _ _ h1 q1
      exact ⟨p1,loop_next p2 q2⟩
     ·rename_i hne
      obtain ⟨p1,p2⟩:=ih1 c σ σ1 e _ _ _ _ h hc
      refine ⟨p1,loop_last (fun he=>?_) p2⟩
      subst he
      exact hne σ1 as' cs' h
    ·cases h
   split at h
   ·split at h
    ·rename_i σ2 as1 cs1 h1
     obtain ⟨q1,q2⟩:=ih2 c σ2 σ1 e _ _ _ _ h hc
     obtain ⟨p1,p2⟩:=ih1 c σ σ2 .normal _ _ _ _ h1 q1
     exact ⟨p1,loop_next p2 q2⟩
    ·rename_i hne
     obtain ⟨p1,p2⟩:=ih1 c σ σ1 e _ _ _ _ h hc
     refine ⟨p1,loop_last (fun he=>?_) p2⟩
     subst he
     exact hne σ1 as' cs' h
   ·rename_i ks e1 σ' r _
    unfold sLoop at h
    split at h
    ·rename_i σ0 hp
     cases h
     exact ⟨hc.2,loop_sub (pruneK_ok hp) hc.1⟩
    ·cases h
   ·cases h
   ·cases h
  refine ⟨?_,loops⟩
  intro c σ σ1 e as as' cs cs' h hc
  cases c with
  | skip=>simp only [scode] at h;cases h;exact ⟨hc,fun E g hN hp a w hr=>wp_skip ⟨rfl,hr⟩⟩
  | ret=>simp only [scode] at h;cases h;exact ⟨hc,fun E g hN hp a w hr=>wp_ret ⟨rfl,hr⟩⟩
  | exit i=>simp only [scode] at h;cases h;exact ⟨hc,fun E g hN hp a w hr=>wp_exit ⟨rfl,hr⟩⟩
  | label l=>simp only [scode] at h;cases h;exact ⟨hc,fun E g hN hp a w hr=>wp_label ⟨rfl,hr⟩⟩
  | scope c =>
   simp only [scode] at h
   obtain ⟨p1,p2⟩:=ih1 c σ σ1 e _ _ _ _ h hc
   refine ⟨p1,fun E g hN hp a w hr=>wp_scope_straight (wp_mono (p2 E g hN hp a w hr) fun e' a' w' ⟨q1,q2⟩=>?_)⟩
   cases e with
   | normal=>obtain rfl:e'=.normal:=q1;exact ⟨rfl,q2⟩
   | exit i=>obtain rfl:e'=.exit i:=q1;exact ⟨rfl,q2⟩
   | ret=>obtain rfl:e'=.ret:=q1;exact ⟨rfl,q2⟩
   | pan v=>obtain ⟨u,hu,rfl⟩:=q1;exact ⟨⟨u,hu,rfl⟩,q2⟩
  | region id ops draw =>
   simp only [scode] at h
   split at h
   ·exact sRegQ_ok hm hcf h hc
   ·rename_i k ks _
    unfold sRegF at h
    split at h
    ·rename_i fs hfs
     split at h
     ·rename_i σ9 _ _ _ _
      obtain ⟨⟨q1,q2⟩,q3⟩:=sReg_ok hm hcf h hc
      obtain ⟨c1,_,rfl,c3⟩:=q1
      refine ⟨q2,body_sub (fun E hE a w r=>?_) q3 (SubK.refl _ _)⟩
      have r1:=sub_keepS kp (σ9.t.map (·.1)) σ E hE a w r
      have r2:=sub_frzA (σ:=⟨keepS (σ9.t.map (·.1)) σ.t,σ.h⟩) fs (selA_ok hfs c1) E a w r1
      exact sub_match c3 E hE a w r2
     ·cases h
    ·cases h
  | seq x y =>
   simp only [scode] at h
   split at h
   ·rename_i σ2 as1 cs1 h1
    obtain ⟨q1,q2⟩:=ih1 y σ2 σ1 e _ _ _ _ h hc
    obtain ⟨p1,p2⟩:=ih1 x σ σ2 .normal _ _ _ _ h1 q1
    exact ⟨p1,body_seq p2 q2⟩
   ·rename_i hne
    obtain ⟨p1,p2⟩:=ih1 x σ σ1 e _ _ _ _ h hc
    refine ⟨p1,body_seqE (fun he=>?_) p2⟩
    subst he
    exact hne σ1 as' cs' h
  | cond c x y =>
   simp only [scode] at h
   have key:∀ {z:Bool} {as1:List Ans} {cs1:List Prop},sCond σ as cs (evL σ c)=.ok (z,as1,cs1)->Holds cs1->Holds cs/\evL σ c=.val (.bool z):=by
    intro z as1 cs1 h1 hc1
    unfold sCond at h1
    split at h1
    ·rename_i bb hb
     obtain ⟨p1,p2⟩:=sTest_ok h1 hc1
     subst p2
     exact ⟨p1,hb⟩
    ·cases h1
   split at h
   ·rename_i as1 cs1 h1
    obtain ⟨q1,q2⟩:=ih1 x σ σ1 e _ _ _ _ h hc
    obtain ⟨p1,p2⟩:=key h1 q1
    refine ⟨p1,fun E g hN hp a w hr=>?_⟩
    obtain ⟨β,I,r⟩:=hr
    have hv:=(R_ev r ((evL_den σ c).trans p2)).val_inv
    exact wp_cond_split hv (fun _=>q2 E g hN hp a w ⟨β,I,r⟩) (fun e=>by cases e)
   ·rename_i as1 cs1 h1
    obtain ⟨q1,q2⟩:=ih1 y σ σ1 e _ _ _ _ h hc
    obtain ⟨p1,p2⟩:=key h1 q1
    refine ⟨p1,fun E g hN hp a w hr=>?_⟩
    obtain ⟨β,I,r⟩:=hr
    have hv:=(R_ev r ((evL_den σ c).trans p2)).val_inv
    exact wp_cond_split hv (fun e=>by cases e) (fun _=>q2 E g hN hp a w ⟨β,I,r⟩)
   ·cases h
  | block i x =>
   simp only [scode] at h
   split at h
   ·rename_i j σ2 as1 cs1 h1
    split at h
    ·rename_i e1
     cases h
     obtain ⟨p1,p2⟩:=ih1 x σ σ1 (.exit j) _ _ _ _ h1 hc
     refine ⟨p1,fun E g hN hp a w hr=>wp_block (wp_mono (p2 E g hN hp a w hr) fun e' a' w' ⟨q1,q2⟩=>?_)⟩
     obtain rfl:e'=.exit j:=q1
     simp only [Exit.inBlock]
     rw [if_pos e1];exact ⟨rfl,q2⟩
    ·rename_i e1
     cases h
     obtain ⟨p1,p2⟩:=ih1 x σ σ1 (.exit j) _ _ _ _ h1 hc
     refine ⟨p1,fun E g hN hp a w hr=>wp_block (wp_mono (p2 E g hN hp a w hr) fun e' a' w' ⟨q1,q2⟩=>?_)⟩
     obtain rfl:e'=.exit j:=q1
     simp only [Exit.inBlock]
     rw [if_neg e1];exact ⟨rfl,q2⟩
   ·rename_i hne
    obtain ⟨p1,p2⟩:=ih1 x σ σ1 e _ _ _ _ h hc
    refine ⟨p1,fun E g hN hp a w hr=>wp_block (wp_mono (p2 E g hN hp a w hr) fun e' a' w' ⟨q1,q2⟩=>?_)⟩
    cases e with
    | normal=>obtain rfl:e'=.normal:=q1;exact ⟨rfl,q2⟩
    | exit j=>exact absurd h (hne j σ1 as' cs')
    | ret=>obtain rfl:e'=.ret:=q1;exact ⟨rfl,q2⟩
    | pan v=>obtain ⟨u,hu,rfl⟩:=q1;exact ⟨⟨u,hu,rfl⟩,q2⟩
  | loop x =>
   obtain ⟨p1,p2⟩:=loops x σ σ1 e as as' cs cs' h hc
   exact ⟨p1,loop_body p2⟩
  | _=>simp [scode,bad] at h
end
def defsIn:Code->Bool
 | .seq x y=>defsIn x || defsIn y
 | .region _ ops _=>anyDef ops.toList
 | _=>false
def sFin (P:Program) (fn:Func) (h:List (Nat×GE)) (as:List Ans) (cs:List Prop) (m:Option AV) (σ:AS):Res OutC :=
 match xfin P fn h (some (m,σ)) with
 | some o=>.ok (o,as,cs)
 | none=>bad 922
def ToldC (P:Program) (fn:Func) (h:List (Nat×GE)) (σ1:AS) (oc:OutC):Prop :=
 ∃ Xs f ph r h',resVL P σ1.den fn.results.toList=some Xs/\oc=.ret r h'/\MatchK (h.map (·.1)) f ph ⟨[(0,resV Xs)],σ1.h⟩ ⟨[(0,r)],h'⟩
def sFinM (P:Program) (fn:Func) (h:List (Nat×GE)) (as:List Ans) (cs:List Prop) (σ:AS):Res OutC :=
 match resVL P σ.den fn.results.toList with
 | some Xs=>match skipEv as with
  | .fin f ph r h'::rest=>.ok (.ret r h',rest,MatchK (h.map (·.1)) f ph ⟨[(0,resV Xs)],σ.h⟩ ⟨[(0,r)],h'⟩::cs)
  | _=>.error (.fin (resV Xs) σ)
 | none=>bad 928
def sEnd (P:Program) (told:Bool) (fn:Func) (h:List (Nat×GE)):Res (XEnd×AS)->Res OutC
 | .ok ((.normal,σ1),as,cs)=>match told with|true=>sFinM P fn h as cs σ1|false=>sFin P fn h as cs none σ1
 | .ok ((.ret,σ1),as,cs)=>match told with|true=>sFinM P fn h as cs σ1|false=>sFin P fn h as cs none σ1
 | .ok ((.pan v,σ1),as,cs)=>sFin P fn h as cs (some v) σ1
 | .ok ((.exit _,_),_,_)=>bad 923
 | .error e=>.error e
def sOfX (as:List Ans) (cs:List Prop):Option OutC->Res OutC
 | some o=>.ok (o,as,cs)
 | none=>bad 924
def sfun (P:Program) (W:World) (G:Cfg) (F:Nat):Nat->CallS
 | 0,_,_,_,_,_,_=>bad 920
 | n+1,f,As,h,b,as,cs =>
  match P.funcs[f]? with
  | some fn =>
   match fn.body with
   | some c =>
    match defsIn c && !(memN f G.nd) with
    | true=>sOfX as cs (xfun P F (n+1) f As h b)
    | false=>if As.length<=fn.ntmps/\100000<=b then sEnd P (n+1 == G.fin) fn h (scode P W G (sfun P W G F n) (h.map (·.1)) b fn.ntmps F c ⟨argT 0 As,h⟩ as cs) else bad 925
   | none=>bad 926
  | none=>bad 927
section
variable {P:Program} {W:World} {G:Cfg}
theorem memN_of {k:Nat} {l:List Nat} (h:k ∈ l):memN k l=true:=(memN_iff k l).2 h
theorem pinK_lent {N:Nat} {w:World} {I:Nat->Prop} {β:Nat->Plc} {h:List (Nat×GE)}:pinK (h.map (·.1)) (lentE N w I β h):=by
 intro k p hp
 have hp':(if (hg h k).isSome=true then some (β k) else none)=some p:=hp
 split at hp'
 ·rename_i hi
  obtain ⟨g,hgk⟩:=Option.isSome_iff_exists.1 hi
  exact memN_of (List.mem_map.2 ⟨_,hg_mem hgk,rfl⟩)
 ·cases hp'
theorem sfun_ok (hm:P.follows .mixedOrders=true) (F:Nat):∀ n,CFokS P W (sfun P W G F n)
 | 0=>by intro f As h b as cs o as' cs' hx;simp [sfun,bad] at hx
 | n+1=>by
  intro f As h b as cs oc as' cs' hx hcl hbig hc
  have ih:=sfun_ok hm F n
  simp only [sfun] at hx
  split at hx
  case h_2=>cases hx
  rename_i fn hf
  split at hx
  case h_2=>cases hx
  rename_i c hcode
  split at hx
  ·unfold sOfX at hx
   split at hx
   ·rename_i o hxo
    cases hx
    exact ⟨hc,xfun_ok hm F (n+1) f As h b oc hxo hcl hbig⟩
   ·cases hx
  split at hx
  case isFalse=>cases hx
  rename_i hcond
  have ends:∃ (e:XEnd) (σ1:AS) (m:Option AV) (as1:List Ans) (cs1:List Prop),scode P W G (sfun P W G F n) (h.map (·.1)) b fn.ntmps F c ⟨argT 0 As,h⟩ as cs=.ok ((e,σ1),as1,cs1)/\(Holds cs1/\(xfin P fn h (some (m,σ1))=some oc\/(m=none/\ToldC P fn h σ1 oc)))/\((m=none/\(e=.normal\/e=.ret))\/∃ v,m=some v/\e=.pan v):=by
   generalize hs:scode P W G (sfun P W G F n) (h.map (·.1)) b fn.ntmps F c ⟨argT 0 As,h⟩ as cs=S at hx
   have fin:∀ {m σ1 as1 cs1},sFin P fn h as1 cs1 m σ1=.ok (oc,as',cs')->Holds cs1/\(xfin P fn h (some (m,σ1))=some oc\/(m=none/\ToldC P fn h σ1 oc)):=by
    intro m σ1 as1 cs1 hq
    unfold sFin at hq
    split at hq
    ·rename_i o ho;cases hq;exact ⟨hc,.inl ho⟩
    ·cases hq
   have finM:∀ {σ1 as1 cs1},sFinM P fn h as1 cs1 σ1=.ok (oc,as',cs')->Holds cs1/\(xfin P fn h (some (none,σ1))=some oc\/((none:Option AV)=none/\ToldC P fn h σ1 oc)):=by
    intro σ1 as1 cs1 hq
    unfold sFinM at hq
    split at hq
    ·rename_i Xs hX
     split at hq
     ·cases hq;exact ⟨hc.2,.inr ⟨rfl,_,_,_,_,_,hX,rfl,hc.1⟩⟩
     ·cases hq
    ·cases hq
   unfold sEnd at hx
   split at hx
   ·split at hx
    ·exact ⟨_,_,none,_,_,rfl,finM hx,.inl ⟨rfl,.inl rfl⟩⟩
    ·exact ⟨_,_,none,_,_,rfl,fin hx,.inl ⟨rfl,.inl rfl⟩⟩
   ·split at hx
    ·exact ⟨_,_,none,_,_,rfl,finM hx,.inl ⟨rfl,.inr rfl⟩⟩
    ·exact ⟨_,_,none,_,_,rfl,fin hx,.inl ⟨rfl,.inr rfl⟩⟩
   ·exact ⟨_,_,some _,_,_,rfl,fin hx,.inr ⟨_,rfl,rfl⟩⟩
   ·cases hx
   ·cases hx
  obtain ⟨e,σ1,m,as1,cs1,hs,⟨hc1,hfin⟩,hme⟩:=ends
  obtain ⟨hc0,hbody⟩:=(scode_ok hm ih F).1 c _ σ1 e as as1 cs cs1 hs hc1
  refine ⟨hc0,fun β I w vs hw hlB hi hR=>?_⟩
  refine calls_of_wp_defers hf hcode ?_
  have hr:=rep0H hi hR hcond.1 (bigAll_spec hbig)
  have hg':Env.good W (lentE fn.ntmps w I β h):=⟨hw,hlB⟩
  have leave:∀ (u:FrameMode) (a':Act) (w':World),ModeR m u->Rep (lentE fn.ntmps w I β h) σ1.den a' w' →
   Leaves P fn a'.tmps (fun e w'=>∃ β' I' v,EndIs oc e v/\R β' (dom (hg oc.h)) I' w'.heap true oc.v v/\Inv β' I' (hg oc.h) w'.heap/\Fr (lentE 0 w I β h) β' I' (hg oc.h) w') a'.defers u w':=by
   intro u a' w' hmode hr'
   have hdl:a'.defers=[]:=by obtain ⟨_,_,r'⟩:=hr';exact r'.defers
   rw [hdl]
   obtain ⟨β2,I2,r2⟩:=hr'
   cases m with
   | none =>
    have hu2:u=.returning:=hmode
    subst hu2
    rcases hfin with hfin|⟨_,Xs,f,ph,r,h',hXs,rfl,hmt⟩
    ·simp only [xfin] at hfin
     cases hxr:xRes P fn h σ1 with
     | none=>rw [hxr] at hfin;cases hfin
     | some p =>
      obtain ⟨r,h'⟩:=p
      rw [hxr] at hfin
      simp only [Option.map_some,Option.some.injEq] at hfin
      subst hfin
      unfold xRes at hxr
      split at hxr
      case h_2=>cases hxr
      rename_i Xs hXs
      obtain ⟨rfl,ns,q1,q2,q3⟩:=cleanX_spec hxr
      obtain ⟨v,hv,hRv⟩:=results_run (P:=P) r2 hXs
      have:=clean_fin r2.inv r2.fr hRv q1 q2 q3
      exact ⟨v,hv,β2,I2,v,rfl,this.1,this.2.1,this.2.2⟩
    ·obtain ⟨v,hv,hRv⟩:=results_run (P:=P) r2 hXs
     obtain ⟨f1,f2,f3,f4,f5,f6,f7,f8,f9⟩:=r2.fr
     have r0:RepAt (lentE 1 w I β h) (AS.mk [(0,resV Xs)] σ1.h).den {tmps:=#[v],defers:=[]} w' β2 I2:=by
      refine ⟨fun i=>?_,r2.inv,⟨f1,f2,f3,f4,f5,f6,f7,f8,f9⟩,rfl,rfl⟩
      show R β2 (dom (hg σ1.h)) I2 w'.heap true (if 0=i then resV Xs else .top) _
      split
      ·rename_i e;subst e;exact hRv
      ·exact .top _ _
     obtain ⟨β3,I3,r3⟩:=sub_match hmt _ pinK_lent _ _ ⟨β2,I2,r0⟩
     have t0:=r3.tmps 0
     obtain ⟨g1,g2,g3,g4,g5,g6,g7,g8,g9⟩:=r3.fr
     exact ⟨v,hv,β3,I3,v,rfl,t0,r3.inv,⟨g1,g2,g3,g4,g5,g6,g7,g8,g9⟩⟩
   | some pv =>
    obtain ⟨v,hcv,rfl⟩:=hmode
    rcases hfin with hfin|⟨hfin,_⟩
    case inr=>cases hfin
    simp only [xfin] at hfin
    cases hxr:cleanX h .top σ1.h with
    | none=>rw [hxr] at hfin;cases hfin
    | some p =>
     obtain ⟨r,h'⟩:=p
     rw [hxr] at hfin
     simp only [Option.map_some,Option.some.injEq] at hfin
     subst hfin
     obtain ⟨_,ns,q1,q2,q3⟩:=cleanX_spec hxr
     have:=clean_fin (v:=undef) r2.inv r2.fr (.top _ _) q1 q2 q3
     exact ⟨β2,I2,v,rfl,hcv _ _ _ _ _,this.2.1,this.2.2⟩
  refine wp_mono (hbody _ hg' rfl pinK_lent _ w ⟨β,I,hr⟩) fun e' a' w' ⟨q2,q3⟩=>?_
  rcases hme with ⟨rfl,rfl|rfl⟩|⟨v,rfl,rfl⟩
  ·obtain rfl:e'=.normal:=q2;exact leave .returning a' w' rfl q3
  ·obtain rfl:e'=.ret:=q2;exact leave .returning a' w' rfl q3
  ·obtain ⟨u,hu,rfl⟩:=q2;exact leave _ a' w' ⟨u,hu,rfl⟩ q3
theorem mut_of_sfun (hm:P.follows .mixedOrders=true) {F n b:Nat} {f:FuncId} {As:List AV} {h:List (Nat×GE)} {o:OutC} {as as':List Ans} {cs:List Prop} (hf:callable P f=true) (hb:bigAll h=true)
 (hx:sfun P W G F n f As h b as []=.ok (o,as',cs)) (hc:Holds cs):MutC P W f As h o :=
 (sfun_ok hm F n f As h b as [] o as' cs hx hf hb hc).2
theorem pure_of_mut {f:FuncId} {As:List AV} {r:AV} (hr:r.clo=true) (h:MutC P W f As [] (.ret r [])):Pure P W f As r:=by
 intro β D I w vs hw hI hR
 refine (h β I w vs hw (fun b ⟨k,g,hk,_⟩=>by cases hk) ⟨(fun k g hk=>by cases hk),hI,(fun k k' g g' _ hk=>by cases hk)⟩ ((hR.closed (fun b hb=>⟨hb,rfl⟩) rfl true))).mono fun e w' ⟨β',I',v,h1,h2,h3,h4⟩=>?_
 have h1':e=.returned v:=h1
 refine ⟨I',v,h1',(h2.clo hr).closed (fun b hb=>⟨hb,rfl⟩) rfl false,⟨fun b hb=>h4.old b hb (fun ⟨k,g,hk,_⟩=>by cases hk),h4.size,h4.os,h4.tape,h4.output,h4.i0,fun b hb=>⟨h3.imm b hb,fun hlt=>?_⟩⟩⟩
 rcases h4.i1 b hb hlt with h|⟨k,g,hk,_⟩
 ·exact h
 ·cases hk
end
end Go.Ac

namespace Go.Ac
open Go
section
variable {P:Program} {W:World} {f:FuncId}
def retS (r:AV) (h:List (Nat×GE)):SS:=⟨fun i=>if i=0 then r else .top,hg h⟩
theorem mut_sub {As:List AV} {h0 h1 h2:List (Nat×GE)} {r r2:AV} {σ2:SS} (hM:MutC P W f As h0 (.ret r h1)) (hs:Sub (retS r h1) σ2) (hr:σ2.t 0=r2) (hh:σ2.h=hg h2):MutC P W f As h0 (.ret r2 h2):=by
 intro β I w vs hw hlB hi hR
 refine (hM β I w vs hw hlB hi hR).mono fun e w' ⟨β',I',v,q1,q2,q3,q4⟩=>?_
 obtain ⟨f1,f2,f3,f4,f5,f6,f7,f8,f9⟩:=q4
 have r0:RepAt (lentE 1 w I β h0) (retS r h1) {tmps:=#[v],defers:=[]} w' β' I':=by
  refine ⟨fun i=>?_,q3,⟨f1,f2,f3,f4,f5,f6,f7,f8,f9⟩,rfl,rfl⟩
  show R β' (dom (hg h1)) I' w'.heap true (if i=0 then r else .top) _
  split
  ·rename_i e;subst e;exact q2
  ·exact .top _ _
 obtain ⟨β2,I2,r2'⟩:=hs _ _ _ ⟨β',I',r0⟩
 have t0:=r2'.tmps 0
 rw [hr] at t0
 obtain ⟨g1,g2,g3,g4,g5,g6,g7,g8,g9⟩:=r2'.fr
 have inv2:=r2'.inv
 rw [hh] at t0 inv2 g8 g9
 exact ⟨β2,I2,v,q1,t0,inv2,⟨g1,g2,g3,g4,g5,g6,g7,g8,g9⟩⟩
def frzG1 (fs:List (Nat×GE)) (k:Nat) (g:GE):GE:=clGE fs (match lk fs k with|some g'=>frzGE g'|none=>g)
def frzL1 (fs:List (Nat×GE)):List (Nat×GE)->List (Nat×GE)
 | []=>[]
 | (k,g)::l=>(k,frzG1 fs k g)::frzL1 fs l
theorem hg_frzL1 (fs:List (Nat×GE)):∀ (l:List (Nat×GE)) (i:Nat),hg (frzL1 fs l) i=(hg l i).map (frzG1 fs i)
 | [],_=>rfl
 | (k,g)::l,i=>by
  simp only [frzL1,hg]
  split
  ·rename_i e;subst e;rfl
  ·exact hg_frzL1 fs l i
theorem mut_frz {As:List AV} {h0 h1:List (Nat×GE)} {r:AV} (fs:List (Nat×GE)) (hM:MutC P W f As h0 (.ret r h1)) (hfs:∀ p ∈ fs,hg h1 p.1=some p.2/\Frzable p.2):MutC P W f As h0 (.ret (clA fs r) (frzL1 fs h1)):=by
 refine mut_sub hM (sub_frz (σ:=retS r h1) hfs) (by simp [retS]) ?_
 funext i
 show (frzH (hg h1) fs i).map (clGE fs)=_
 rw [hg_frzL1]
 unfold frzH frzG1
 cases hl:lk fs i with
 | none=>rfl
 | some g =>
  have:=(hfs _ (lk_mem hl)).1
  simp only at this
  rw [this];rfl
end
end Go.Ac

namespace Go.Ac
open Go
set_option maxRecDepth 4000
structure JH where
 kind:Int
 int:Int
 text:List UInt8
 names:List (List UInt8)
inductive JV where
 | mk (h:JH) (items:List JV)
instance:Inhabited JV:=⟨.mk ⟨0,0,[],[]⟩ []⟩
def JV.hd:JV->JH|.mk h _=>h
def JV.items:JV->List JV|.mk _ l=>l
def JV.kind (j:JV):Int:=j.hd.kind
def JV.int (j:JV):Int:=j.hd.int
def JV.text (j:JV):List UInt8:=j.hd.text
def JV.names (j:JV):List (List UInt8):=j.hd.names
def iA (n:Int):AV:=.val (.int .i64 n)
def bA (b:Bool):AV:=.val (.bool b)
mutual
def encV:JV->AV
 | .mk h l=>.agg [.val (.int .i64 h.kind),.val (.int .i64 h.int),.str h.text,.sl 1 (h.names.map AV.str) [],.sl 5 (encVs l) []]
def encVs:List JV->List AV
 | []=>[]
 | j::l=>encV j::encVs l
end
theorem encVs_map:∀ l:List JV,encVs l=l.map encV
 | []=>rfl
 | j::l=>by simp only [encVs,List.map_cons,encVs_map l]
theorem encV_eq (j:JV):encV j=.agg [.val (.int .i64 j.kind),.val (.int .i64 j.int),.str j.text,.sl 1 (j.names.map AV.str) [],.sl 5 (j.items.map encV) []]:=by
 cases j;simp only [encV,encVs_map,JV.kind,JV.int,JV.text,JV.names,JV.items,JV.hd]
theorem cloL_str (l:List (List UInt8)):cloL (l.map AV.str)=true:=by
 induction l with
 | nil=>rfl
 | cons a l ih=>simp only [List.map_cons,cloL,AV.clo,ih,Bool.and_true]
theorem encV_clo (j:JV):(encV j).clo=true:=by rw [encV_eq];rfl
theorem cloL_encV (l:List JV):cloL (l.map encV)=true:=by
 induction l with
 | nil=>rfl
 | cons a l ih=>simp only [List.map_cons,cloL,encV_clo,ih,Bool.and_true]
theorem encVs_clo (l:List JV):cloL (encVs l)=true:=by rw [encVs_map];exact cloL_encV l
theorem getOf {α:Type} {l:List α} {i:Nat} (h:i<l.length):∃ x,l[i]?=some x:=⟨l[i],by simp⟩
theorem drop_get {α:Type} {l:List α} {i:Nat} {x:α} (h:l[i]?=some x):l.drop i=x::l.drop (i+1):=by
 have hi:i<l.length:=(List.getElem?_eq_some_iff.1 h).1
 rw [List.drop_eq_getElem_cons hi]
 congr 1
 rw [List.getElem?_eq_getElem hi] at h;simpa using h
theorem JV.ext {a b:JV} (h1:a.kind=b.kind) (h2:a.int=b.int) (h3:a.text=b.text) (h4:a.names=b.names) (h5:a.items=b.items):a=b:=by
 obtain ⟨⟨_,_,_,_⟩,_⟩:=a
 obtain ⟨⟨_,_,_,_⟩,_⟩:=b
 simp only [JV.kind,JV.int,JV.text,JV.names,JV.items,JV.hd] at *
 subst h1 h2 h3 h4 h5;rfl
theorem strs_get {l:List (List UInt8)} {i:Nat} {x:List UInt8} (h:l[i]?=some x):(l.map AV.str)[i]?=some (.str x):=by rw [List.getElem?_map,h];rfl
def loopsIn:Code->List Code
 | .seq x y=>loopsIn x++loopsIn y
 | .cond _ x y=>loopsIn x++loopsIn y
 | .block _ x=>loopsIn x
 | .scope x=>loopsIn x
 | .loop x=>x::loopsIn x
 | _=>[]
def loopOf (P:Program) (f k:Nat):Code :=
 match P.funcs[f]? with
 | some fn=>match fn.body with
  | some c=>(loopsIn c).getD k .skip
  | none=>.skip
 | none=>.skip
def nslots (P:Program) (f:Nat):Nat :=
 match P.funcs[f]? with
 | some fn=>fn.ntmps
 | none=>0
def sbodyM (P:Program) (W:World) (G:Cfg) (f k:Nat) (kp:List Nat) (σ:AS) (q:List Ans):Res (XEnd×AS) :=
 scode P W G (sfun P W G 1000 8) kp 100000 (nslots P f) 1000 (loopOf P f k) σ q []
theorem wrap_in {n:Int} (h:-9223372036854775808<=n/\n<=9223372036854775807):IntKind.i64.wrap n=n:=IntWalk.i64_in _ (by omega)
end Go.Ac

namespace Go.Ac
open Go
section
variable {P:Program} {W:World} {f:FuncId}
end
end Go.Ac

