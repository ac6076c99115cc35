/- What is proved: abstract values of Go, and single operations. No condition beyond those that each theorem names. -/
import Derived.WalkKit
import Derived.Orders
import Derived.Laws.AppendOwnNone
import Derived.Laws.CopyOwn
import Derived.Laws.MakeOwn
set_option linter.all false
namespace Go.Ac
theorem kr {α} {a b : α} (h : a = b := by kernel_rfl) : a = b := h
open Go
inductive AV where
 | top
 | val (v:Value)
 | str (l:List UInt8)
 | agg (cs:List AV)
 | tup (cs:List AV)
 | sl (n:Nat) (els rest:List AV)
 | ip (el:AV) (c:Nat)
 | gp (k c:Nat)
 | ge (k i c:Nat)
 | gs (k i len:Nat)
 | fn (f:Fn) (first captured:List AV)
 | ifc (t:TypeId) (x:AV)
 | mp (k:Nat)
 deriving Inhabited
def AV.flat:AV->List AV
 | .agg cs=>cs
 | a=>[a]
def flats:List AV->List AV
 | []=>[]
 | a::l=>a.flat++flats l
theorem flats_append (l k:List AV):flats (l++k)=flats l++flats k:=by
 induction l with
 | nil=>rfl
 | cons a l ih=>simp [flats,ih]
theorem flats_length {n:Nat} (l:List AV) (h:∀ e ∈ l,e.flat.length=n):(flats l).length=l.length * n:=by
 induction l with
 | nil=>simp [flats]
 | cons a l ih =>
  have h1:=h a (by simp)
  have h2:=ih (fun e he=>h e (by simp [he]))
  simp only [flats,List.length_append,h1,h2,List.length_cons,Nat.add_mul]
  omega
structure Plc where
 b:Nat
 n:Nat
 z:Nat
 deriving Inhabited
def cellsOne (vs:List Value):Prop:=∀ v ∈ vs,v.oneCell'=true
mutual
inductive R (β:Nat->Plc) (D:Nat->Prop) (I:Nat->Prop) (H:Array Obj):Bool->AV->Value->Prop where
 | top (m v):R β D I H m .top v
 | val (m v):R β D I H m (.val v) v
 | str (m l):R β D I H m (.str l) (.string ⟨l.toArray⟩)
 | agg {m cs vs}:RL β D I H m cs vs->R β D I H m (.agg cs) (.agg vs.toArray)
 | tup {m cs vs}:RL β D I H m cs vs->R β D I H m (.tup cs) (.tuple vs.toArray)
 | sl {m n els rest a cap arr T fz} (vs:List Value):I a.block->a.spot=none->H[a.block]?=some (.cells arr T fz) →
  (∀ e ∈ els,e.flat.length=n)->(∀ e ∈ rest,e.flat.length=n)->els.length+rest.length<=cap->cap<=maxLen →
  RL β D I H false (flats els++flats rest) vs->cellsOne vs->(∀ j v,vs[j]?=some v->arr[a.off+j]?=some v) →
  R β D I H m (.sl n els rest) (.slice (some a) els.length cap)
 | sl0 {m n base}:R β D I H m (.sl n [] []) (.slice base 0 0)
 | ip {m el c b o arr T fz} (vs:List Value):I b->H[b]?=some (.cells arr T fz) →
  RL β D I H false el.flat vs->cellsOne vs->(∀ j v,vs[j]?=some v->arr[o+j]?=some v) →
  R β D I H m (.ip el c) (.pointer (some ⟨b,o+c,none⟩))
 | gp {k c}:D k->R β D I H true (.gp k c) (.pointer (some ⟨(β k).b,c,none⟩))
 | ge {k i c}:D k->R β D I H true (.ge k i c) (.pointer (some ⟨(β k).b,i * (β k).n+c,none⟩))
 | gs {k i len cap base}:D k->len<=cap->cap<=maxLen->((cap=0/\i * (β k).n=(β k).z)\/(base=some ⟨(β k).b,i * (β k).n,none⟩/\(i+cap) * (β k).n=(β k).z)) →
  R β D I H true (.gs k i len) (.slice base len cap)
 | fn {m f xs ys vs us}:RL β D I H m xs vs->RL β D I H m ys us->R β D I H m (.fn f xs ys) (.func f vs.toArray us.toArray)
 | ifc {m t x v}:R β D I H m x v->R β D I H m (.ifc t x) (.iface t v)
 | mp {k}:D k->R β D I H true (.mp k) (.map (some (β k).b))
inductive RL (β:Nat->Plc) (D:Nat->Prop) (I:Nat->Prop) (H:Array Obj):Bool->List AV->List Value->Prop where
 | nil (m):RL β D I H m [] []
 | cons {m a v as vs}:R β D I H m a v->RL β D I H m as vs->RL β D I H m (a::as) (v::vs)
end
section
variable {β β':Nat->Plc} {D D' I I':Nat->Prop} {H H':Array Obj} {m:Bool}
theorem RL.length {as:List AV} {vs:List Value} (h:RL β D I H m as vs):as.length=vs.length:=by
 induction as generalizing vs with
 | nil=>cases h;rfl
 | cons a as ih=>cases h with|cons _ h=>simp [ih h]
theorem RL.get {as:List AV} {vs:List Value} (h:RL β D I H m as vs):∀ (i:Nat) (v:Value),vs[i]?=some v->∃ a,as[i]?=some a/\R β D I H m a v:=by
 induction as generalizing vs with
 | nil=>cases h;intro i v hv;simp at hv
 | cons a as ih =>
  cases h with
  | cons h1 h2 =>
   intro i v hv
   cases i with
   | zero=>simp at hv;exact ⟨a,rfl,hv ▸ h1⟩
   | succ i=>simp at hv;simpa using ih h2 i v hv
theorem RL.get' {as:List AV} {vs:List Value} (h:RL β D I H m as vs):∀ (i:Nat) (a:AV),as[i]?=some a->∃ v,vs[i]?=some v/\R β D I H m a v:=by
 induction as generalizing vs with
 | nil=>cases h;intro i v hv;simp at hv
 | cons a as ih =>
  cases h with
  | cons h1 h2 =>
   intro i x hx
   cases i with
   | zero=>simp at hx;exact ⟨_,rfl,hx ▸ h1⟩
   | succ i=>simp at hx;simpa using ih h2 i x hx
theorem RL.append {as bs:List AV} {vs us:List Value} (h:RL β D I H m as vs) (k:RL β D I H m bs us):RL β D I H m (as++bs) (vs++us):=by
 induction as generalizing vs with
 | nil=>cases h;simpa using k
 | cons a as ih=>cases h with|cons h1 h2=>exact .cons h1 (ih h2)
theorem RL.take {as:List AV} {vs:List Value} (h:RL β D I H m as vs) (n:Nat):RL β D I H m (as.take n) (vs.take n):=by
 induction as generalizing vs n with
 | nil=>cases h;simp;exact .nil _
 | cons a as ih =>
  cases h with
  | cons h1 h2 =>
   cases n with
   | zero=>simp;exact .nil _
   | succ n=>simp;exact .cons h1 (ih h2 n)
theorem RL.drop {as:List AV} {vs:List Value} (h:RL β D I H m as vs) (n:Nat):RL β D I H m (as.drop n) (vs.drop n):=by
 induction as generalizing vs n with
 | nil=>cases h;simp;exact .nil _
 | cons a as ih =>
  cases h with
  | cons h1 h2 =>
   cases n with
   | zero=>simp;exact .cons h1 h2
   | succ n=>simpa using ih h2 n
theorem RL.set {as:List AV} {vs:List Value} (h:RL β D I H m as vs) (n:Nat) {a:AV} {v:Value} (k:R β D I H m a v):RL β D I H m (as.set n a) (vs.set n v):=by
 induction as generalizing vs n with
 | nil=>cases h;simp;exact .nil _
 | cons x as ih =>
  cases h with
  | cons h1 h2 =>
   cases n with
   | zero=>simp;exact .cons k h2
   | succ n=>simp;exact .cons h1 (ih h2 n)
structure Keep (β β':Nat->Plc) (D D' I I':Nat->Prop) (H H':Array Obj):Prop where
 dom:∀ k,D k->D' k/\β' k=β k
 imm:∀ b,I b->I' b/\H'[b]?=H[b]?
mutual
theorem R.keep (K:Keep β β' D D' I I' H H'):∀ {m a v},R β D I H m a v->R β' D' I' H' m a v
 | _,_,_,.top m v=>.top m v
 | _,_,_,.val m v=>.val m v
 | _,_,_,.str m l=>.str m l
 | _,_,_,.agg h=>.agg (RL.keep K h)
 | _,_,_,.tup h=>.tup (RL.keep K h)
 | _,_,_,.sl vs h1 h2 h3 h4 h4' h5 h6 h7 h8 h9=>.sl vs (K.imm _ h1).1 h2 ((K.imm _ h1).2.trans h3) h4 h4' h5 h6 (RL.keep K h7) h8 h9
 | _,_,_,.sl0=>.sl0
 | _,_,_,.ip vs h1 h3 h4 h5 h6=>.ip vs (K.imm _ h1).1 ((K.imm _ h1).2.trans h3) (RL.keep K h4) h5 h6
 | _,_,_,.gp h=>(K.dom _ h).2 ▸ .gp (K.dom _ h).1
 | _,_,_,.ge h=>(K.dom _ h).2 ▸ .ge (K.dom _ h).1
 | _,_,_,.gs h h1 h2 h3=>.gs (K.dom _ h).1 h1 h2 (by rw [(K.dom _ h).2];exact h3)
 | _,_,_,.fn h1 h2=>.fn (RL.keep K h1) (RL.keep K h2)
 | _,_,_,.ifc h=>.ifc (R.keep K h)
 | _,_,_,.mp h=>(K.dom _ h).2 ▸ .mp (K.dom _ h).1
theorem RL.keep (K:Keep β β' D D' I I' H H'):∀ {m as vs},RL β D I H m as vs->RL β' D' I' H' m as vs
 | _,_,_,.nil m=>.nil m
 | _,_,_,.cons h1 h2=>.cons (R.keep K h1) (RL.keep K h2)
end
mutual
theorem R.closed (K:∀ b,I b->I' b/\H'[b]?=H[b]?):∀ {m a v},R β D I H m a v->m=false->∀ m',R β' D' I' H' m' a v
 | _,_,_,.top m v,_,m'=>.top m' v
 | _,_,_,.val m v,_,m'=>.val m' v
 | _,_,_,.str m l,_,m'=>.str m' l
 | _,_,_,.agg h,e,m'=>.agg (RL.closed K h e m')
 | _,_,_,.tup h,e,m'=>.tup (RL.closed K h e m')
 | _,_,_,.sl vs h1 h2 h3 h4 h4' h5 h6 h7 h8 h9,_,_=>.sl vs (K _ h1).1 h2 ((K _ h1).2.trans h3) h4 h4' h5 h6 (RL.closed K h7 rfl false) h8 h9
 | _,_,_,.sl0,_,_=>.sl0
 | _,_,_,.ip vs h1 h3 h4 h5 h6,_,_=>.ip vs (K _ h1).1 ((K _ h1).2.trans h3) (RL.closed K h4 rfl false) h5 h6
 | _,_,_,.gp h,e,_=>by cases e
 | _,_,_,.ge h,e,_=>by cases e
 | _,_,_,.gs h _ _ _,e,_=>by cases e
 | _,_,_,.fn h1 h2,e,m'=>.fn (RL.closed K h1 e m') (RL.closed K h2 e m')
 | _,_,_,.ifc h,e,m'=>.ifc (R.closed K h e m')
 | _,_,_,.mp h,e,_=>by cases e
theorem RL.closed (K:∀ b,I b->I' b/\H'[b]?=H[b]?):∀ {m as vs},RL β D I H m as vs->m=false->∀ m',RL β' D' I' H' m' as vs
 | _,_,_,.nil m,_,m'=>.nil m'
 | _,_,_,.cons h1 h2,e,m'=>.cons (R.closed K h1 e m') (RL.closed K h2 e m')
end
end
section
variable {β:Nat->Plc} {D I:Nat->Prop} {H:Array Obj}
theorem R.up {m:Bool} {a:AV} {v:Value} (h:R β D I H m a v):R β D I H true a v:=by
 cases m
 ·exact h.closed (fun b hb=>⟨hb,rfl⟩) rfl true
 ·exact h
theorem RL.up {m:Bool} {as:List AV} {vs:List Value} (h:RL β D I H m as vs):RL β D I H true as vs:=by
 cases m
 ·exact h.closed (fun b hb=>⟨hb,rfl⟩) rfl true
 ·exact h
end
def AV.isAgg:AV->Bool
 | .agg _=>true
 | _=>false
theorem AV.flat_isAgg {a:AV} (h:a.isAgg=true):a=.agg a.flat:=by cases a<;>simp_all [AV.isAgg,AV.flat]
theorem AV.flat_notAgg {a:AV} (h:a.isAgg=false):a.flat=[a]:=by cases a<;>simp_all [AV.isAgg,AV.flat]
inductive St where
 | own|shr|sld|frz
 deriving DecidableEq,Inhabited
inductive GE where
 | box (el:AV) (st:St)
 | arr (e:TypeId) (n:Nat) (els:List AV) (st:St)
 | map (es:List (AV×AV)) (st:St)
 | iter (s:List UInt8) (pos:Nat)
 | dead
 deriving Inhabited
def GE.st:GE->St
 | .box _ s=>s
 | .arr _ _ _ s=>s
 | .map _ s=>s
 | .iter _ _=>.own
 | .dead=>.sld
def Backed (p:Plc):GE->Prop
 | .box _ _=>True
 | .arr _ _ _ _=>p.z ≠ 0
 | .map _ _=>True
 | .iter _ _=>True
 | .dead=>False
def Compat:GE->GE->Prop
 | .arr _ _ _ .sld,.arr _ _ _ .sld=>True
 | .arr _ n els .sld,.arr _ n' els' .shr=>n=n'/\els.length<=els'.length
 | .arr _ n els .shr,.arr _ n' els' .sld=>n=n'/\els'.length<=els.length
 | _,_=>False
def GEok (β:Nat->Plc) (D I:Nat->Prop) (H:Array Obj) (k:Nat):GE->Prop
 | .box el st=>∃ vs T,(β k).n=1/\H[(β k).b]?=some (.cells vs T (0,0))/\RL β D I H (decide (st ≠ .frz)) el.flat vs.toList/\cellsOne vs.toList ∧
  (st=.frz->I (β k).b)/\(st ≠ .frz->¬ I (β k).b)
 | .arr e n els st=>(β k).n=n/\0<n/\(∀ x ∈ els,x.flat.length=n) ∧
  (((β k).z=0/\els=[])\/((β k).z ≠ 0/\∃ vs,H[(β k).b]?=some (.cells vs e (0,0))/\vs.size=(β k).z/\els.length * n<=(β k).z ∧
   RL β D I H (decide (st ≠ .frz)) (flats els) (vs.toList.take (els.length * n))/\cellsOne (vs.toList.take (els.length * n)) ∧
   (st=.frz->I (β k).b)/\(st ≠ .frz->¬ I (β k).b)))
 | .map es st=>∃ ms c,H[(β k).b]?=some (.map ms c)/\RL β D I H (decide (st ≠ .frz)) (es.map (·.1)) (ms.toList.map (·.key))/\RL β D I H (decide (st ≠ .frz)) (es.map (·.2)) (ms.toList.map (·.val)) ∧
  (st=.frz->I (β k).b)/\(st ≠ .frz->¬ I (β k).b)
 | .iter s pos=>H[(β k).b]?=some (.stringIter ⟨s.toArray⟩ pos)/\¬ I (β k).b
 | .dead=>True
abbrev dom (h:Nat->Option GE):Nat->Prop:=fun k=>(h k).isSome=true
structure Inv (β:Nat->Plc) (I:Nat->Prop) (h:Nat->Option GE) (H:Array Obj):Prop where
 ge:∀ k g,h k=some g->GEok β (dom h) I H k g
 imm:∀ b,I b->b<H.size
 sep:∀ k k' g g',k ≠ k'->h k=some g->h k'=some g'->Backed (β k) g->Backed (β k') g'->(β k).b=(β k').b->Compat g g'
structure Env where
 N:Nat
 w0:World
 I0:Nat->Prop
 B0:Nat->Prop
 pin:Nat->Option Plc:=fun _=>none
 dl:List Deferred:=[]
structure Fr (E:Env) (β:Nat->Plc) (I:Nat->Prop) (h:Nat->Option GE) (w:World):Prop where
 size:E.w0.heap.size<=w.heap.size
 os:w.os=E.w0.os
 tape:w.tape=E.w0.tape
 output:w.output=E.w0.output
 old:∀ b,b<E.w0.heap.size->¬ E.B0 b->w.heap[b]?=E.w0.heap[b]?
 i0:∀ b,E.I0 b->I b
 i1:∀ b,I b->b<E.w0.heap.size->E.I0 b\/E.B0 b
 mt:∀ k g,h k=some g->Backed (β k) g->g.st ≠ .frz->E.w0.heap.size<=(β k).b\/E.B0 (β k).b
 pin:∀ k p,E.pin k=some p->100000<=k/\(h k).isSome=true/\β k=p
theorem pin_keep {pin:Nat->Option Plc} {β β':Nat->Plc} {h h':Nat->Option GE} {I I':Nat->Prop} {H H':Array Obj} (K:Keep β β' (dom h) (dom h') I I' H H') (f:∀ k p,pin k=some p->100000<=k/\(h k).isSome=true/\β k=p) :
 ∀ k p,pin k=some p->100000<=k/\(h' k).isSome=true/\β' k=p :=
 fun k p hp=>⟨(f k p hp).1,(K.dom k (f k p hp).2.1).1,(K.dom k (f k p hp).2.1).2.trans (f k p hp).2.2⟩
structure SS where
 t:Nat->AV
 h:Nat->Option GE
structure RepAt (E:Env) (σ:SS) (a:Act) (w:World) (β:Nat->Plc) (I:Nat->Prop):Prop where
 tmps:∀ i,R β (dom σ.h) I w.heap true (σ.t i) (a.tmps.getD i undef)
 inv:Inv β I σ.h w.heap
 fr:Fr E β I σ.h w
 size:a.tmps.size=E.N
 defers:a.defers=E.dl
def Rep (E:Env) (σ:SS) (a:Act) (w:World):Prop:=∃ β I,RepAt E σ a w β I
structure Eff where
 rt:List (Nat×AV):=[]
 rh:List (Nat×Option GE):=[]
 dst:Option Nat:=none
 v:AV:=.top
 wh:List (Nat×Option GE):=[]
def hset (h:Nat->Option GE):List (Nat×Option GE)->Nat->Option GE
 | []=>h
 | (k,g)::l=>hset (fun i=>if i=k then g else h i) l
def tset (t:Nat->AV):Option Nat->AV->Nat->AV
 | none,_=>t
 | some d,v=>fun i=>if i=d then v else t i
def SS.upd (σ:SS) (f:Eff):SS:=⟨tset σ.t f.dst f.v,hset σ.h f.wh⟩
def Reads (σ:SS) (f:Eff):Prop:=(∀ p ∈ f.rt,σ.t p.1=p.2)/\(∀ p ∈ f.rh,σ.h p.1=p.2)
def LocalOK (P:Program) (o:Oper) (f:Eff):Prop :=
 ∀ (E:Env) (σ:SS) (a:Act) (w:World) (K:Act->World->Prop) (Q:Exit->Act->World->Prop),(∀ d,f.dst=some d->d<E.N)->Reads σ f->Rep E σ a w →
  (∀ a' w',Rep E (σ.upd f) a' w'->K a' w')->o.wp P a w K Q
theorem tmps_put {β:Nat->Plc} {D I:Nat->Prop} {H:Array Obj} {t:Nat->AV} {a:Act} {dst:Option Nat} {x:AV} {v:Value}
 (h:∀ i,R β D I H true (t i) (a.tmps.getD i undef)) (hd:∀ d,dst=some d->d<a.tmps.size) (hv:R β D I H true x v) :
 ∀ i,R β D I H true (tset t dst x i) ((a.put dst v).tmps.getD i undef):=by
 intro i
 cases dst with
 | none=>exact h i
 | some d =>
  have hlt:=hd d rfl
  simp only [tset,Act.put]
  by_cases e:i=d
  ·subst e;simp [hlt];exact hv
  ·rw [if_neg e]
   have:=h i
   simpa [Array.getElem?_setIfInBounds_ne (fun h:d=i=>e h.symm)] using this
theorem size_put (a:Act) (dst:Option Nat) (v:Value):(a.put dst v).tmps.size=a.tmps.size:=by cases dst<;>simp [Act.put]
theorem defers_put (a:Act) (dst:Option Nat) (v:Value):(a.put dst v).defers=a.defers:=by cases dst<;>rfl
theorem RepAt.put {E:Env} {σ:SS} {a:Act} {w:World} {β:Nat->Plc} {I:Nat->Prop} (r:RepAt E σ a w β I) {dst:Option Nat} {x:AV} {v:Value}
 (hd:∀ d,dst=some d->d<E.N) (hv:R β (dom σ.h) I w.heap true x v):RepAt E ⟨tset σ.t dst x,σ.h⟩ (a.put dst v) w β I :=
 ⟨tmps_put r.tmps (by rw [r.size];exact hd) hv,r.inv,r.fr,by rw [size_put,r.size],by rw [defers_put,r.defers]⟩
theorem RepAt.step {E:Env} {σ:SS} {a:Act} {w w':World} {β β':Nat->Plc} {I I':Nat->Prop} {h':Nat->Option GE} (r:RepAt E σ a w β I) {dst:Option Nat} {x:AV} {v:Value}
 (hd:∀ d,dst=some d->d<E.N) (K:Keep β β' (dom σ.h) (dom h') I I' w.heap w'.heap) (hv:R β' (dom h') I' w'.heap true x v)
 (hi:Inv β' I' h' w'.heap) (hf:Fr E β' I' h' w'):RepAt E ⟨tset σ.t dst x,h'⟩ (a.put dst v) w' β' I' :=
 ⟨tmps_put (fun i=>(r.tmps i).keep K) (by rw [r.size];exact hd) hv,hi,hf,by rw [size_put,r.size],by rw [defers_put,r.defers]⟩
theorem localOK_value {P:Program} {o:Oper} {f:Eff} (hh:f.wh=[]) (hdst:f.dst=o.dst)
 (H:∀ (E:Env) (σ:SS) (a:Act) (w:World) (β:Nat->Plc) (I:Nat->Prop),Reads σ f->RepAt E σ a w β I →
  ∃ v,(execOp a.eval o).run P w=.ok (.value v) w/\R β (dom σ.h) I w.heap true f.v v):LocalOK P o f:=by
 intro E σ a w K Q hd hr ⟨β,I,r⟩ hk
 obtain ⟨v,hrun,hv⟩:=H E σ a w β I hr r
 unfold Oper.wp
 rw [hrun,Oper.upon_value]
 refine hk _ _ ⟨β,I,?_⟩
 have:=r.put hd hv
 rw [hdst] at this
 simpa [SS.upd,hh,hset,hdst] using this
end Go.Ac

namespace Go.Ac
open Go
def evC:Operand->AV
 | .tmp _=>.top
 | .const (.string s)=>.str s.data.toList
 | .const v=>.val v
 | .global g=>.val (.pointer (some ⟨g,0,none⟩))
 | .func f=>.val (.func (.func f) #[] #[])
def evA (t:Nat->AV):Operand->AV
 | .tmp i=>t i
 | x=>evC x
def rd:Operand->AV->List (Nat×AV)
 | .tmp i,X=>[(i,X)]
 | _,_=>[]
theorem ev_reads {t t':Nat->AV} {x:Operand} {X:AV} (h:evA t x=X) (hr:∀ p ∈ rd x X,t' p.1=p.2):evA t' x=X:=by
 cases x with
 | tmp i=>exact hr (i,X) (by simp [rd])
 | _=>exact h
section
variable {β:Nat->Plc} {D I:Nat->Prop} {H:Array Obj} {m:Bool}
theorem R_evC {x:Operand} (h:∀ i,x ≠ .tmp i) (a:Act):R β D I H m (evC x) (a.eval x):=by
 cases x with
 | tmp i=>exact absurd rfl (h i)
 | const v =>
  cases v with
  | string s=>simp only [evC,Act.eval];exact .str _ _
  | _=>exact .val _ _
 | global g=>exact .val _ _
 | func f=>exact .val _ _
end
theorem R_ev {E:Env} {σ:SS} {a:Act} {w:World} {β:Nat->Plc} {I:Nat->Prop} (r:RepAt E σ a w β I) {x:Operand} {X:AV} (h:evA σ.t x=X) :
 R β (dom σ.h) I w.heap true X (a.eval x):=by
 subst h
 cases x with
 | tmp i=>exact r.tmps i
 | const v=>exact R_evC (x:=.const v) (fun i h=>by cases h) a
 | global g=>exact R_evC (x:=.global g) (fun i h=>by cases h) a
 | func f=>exact R_evC (x:=.func f) (fun i h=>by cases h) a
def rds (xs:List (Operand×AV)):List (Nat×AV):=xs.flatMap fun p=>rd p.1 p.2
theorem localOKn {P:Program} {o:Oper} {t:Nat->AV} (xs:List (Operand×AV)) (rh:List (Nat×Option GE)) (r:AV) (hx:∀ p ∈ xs,evA t p.1=p.2)
 (H:∀ (E:Env) (σ:SS) (a:Act) (w:World) (β:Nat->Plc) (I:Nat->Prop),RepAt E σ a w β I->(∀ p ∈ xs,R β (dom σ.h) I w.heap true p.2 (a.eval p.1)) →
  (∀ p ∈ rh,σ.h p.1=p.2)->∃ v,(execOp a.eval o).run P w=.ok (.value v) w/\R β (dom σ.h) I w.heap true r v) :
 LocalOK P o {rt:=rds xs,rh:=rh,dst:=o.dst,v:=r} :=
 localOK_value rfl rfl fun E σ a w β I hr ra=>H E σ a w β I ra
  (fun p hp=>R_ev ra (ev_reads (hx p hp) (fun q hq=>hr.1 q (List.mem_flatMap.2 ⟨p,hp,hq⟩)))) hr.2
theorem ok_move {P:Program} {o:Oper} {t:Nat->AV} {x:Operand} {X:AV} (ho:o.op=.move x\/o.op=.assign x) (hx:evA t x=X) :
 LocalOK P o {rt:=rds [(x,X)],rh:=[],dst:=o.dst,v:=X} :=
 localOKn [(x,X)] [] X (by simpa using hx) fun E σ a w β I r hR _=>⟨a.eval x,by rcases ho with h|h<;>simp [execOp,h],hR (x,X) (by simp)⟩
section
variable {β:Nat->Plc} {D I:Nat->Prop} {H:Array Obj} {m:Bool}
theorem R.val_inv {u v:Value} (h:R β D I H m (.val u) v):v=u:=by cases h;rfl
theorem R.str_inv {l:List UInt8} {v:Value} (h:R β D I H m (.str l) v):v=.string ⟨l.toArray⟩:=by cases h;rfl
end
theorem ok_pick {P:Program} {o:Oper} {t:Nat->AV} {c x y:Operand} {X Y:AV} {b:Bool} (ho:o.op=.pick c x y) (hc:evA t c=.val (.bool b)) (hx:evA t x=X) (hy:evA t y=Y) :
 LocalOK P o {rt:=rds [(c,.val (.bool b)),(x,X),(y,Y)],rh:=[],dst:=o.dst,v:=bif b then X else Y} :=
 localOKn [(c,.val (.bool b)),(x,X),(y,Y)] [] _ (by simpa using ⟨hc,hx,hy⟩) fun E σ a w β I r hR _=>by
  have h1:=(hR (c,.val (.bool b)) (by simp)).val_inv
  refine ⟨if b then a.eval x else a.eval y,by simp [execOp,ho,h1,asBool],?_⟩
  cases b
  ·exact hR (y,Y) (by simp)
  ·exact hR (x,X) (by simp)
theorem ok_extract {P:Program} {o:Oper} {t:Nat->AV} {x:Operand} {cs:List AV} {i:Nat} {X:AV} (ho:o.op=.extract x i) (hx:evA t x=.tup cs) (hi:cs[i]?=some X) :
 LocalOK P o {rt:=rds [(x,.tup cs)],rh:=[],dst:=o.dst,v:=X} :=
 localOKn [(x,.tup cs)] [] _ (by simpa using hx) fun E σ a w β I r hR _=>by
  have h1:=hR (x,.tup cs) (by simp)
  generalize hv:a.eval x=v at h1
  simp only at h1
  cases h1 with
  | tup h =>
   rename_i vs
   obtain ⟨v,h1,h2⟩:=h.get' i X hi
   exact ⟨v,by simp [execOp,ho,hv,Instr.extract,h1],h2⟩
def binV (op:BinOp) (u v:Value):Option Value :=
 match op,u,v with
 | .add,.int k a,.int j b=>if k=j then some (.int k (k.wrap (a+b))) else none
 | .sub,.int k a,.int j b=>if k=j then some (.int k (k.wrap (a - b))) else none
 | .mul,.int k a,.int j b=>if k=j then some (.int k (k.wrap (a * b))) else none
 | .eql,.int k a,.int j b=>if k=j then some (.bool (decide (a=b))) else none
 | .neq,.int k a,.int j b=>if k=j then some (.bool (!decide (a=b))) else none
 | .lss,.int k a,.int j b=>if k=j then some (.bool (decide (a<b))) else none
 | .leq,.int k a,.int j b=>if k=j then some (.bool (decide (a<=b))) else none
 | .gtr,.int k a,.int j b=>if k=j then some (.bool (decide (b<a))) else none
 | .geq,.int k a,.int j b=>if k=j then some (.bool (decide (b<=a))) else none
 | _,_,_=>none
theorem binV_run {P:Program} {w:World} {op:BinOp} {t:TypeId} {u v r:Value} (h:binV op u v=some r):(binOp op t u v).run P w=.ok r w:=by
 unfold binV at h
 split at h<;>first
  | (simp only [reduceCtorEq] at h;done)
  | (split at h
     ·rename_i hk;subst hk;cases h;simp [binOp,Op.intArith,Op.intCmp,BEq.beq,bne]
     ·cases h)
theorem eqGuard_int {P:Program} {w:World} {op:BinOp} {t:TypeId} {x y:Operand} {k:IntKind} {a:Int} {v:Value}:(eqGuard op t x y (.int k a) v).run P w=.ok () w:=by
 rw [eqGuard_at_int];rfl
theorem ok_bin {P:Program} {o:Oper} {t:Nat->AV} {op:BinOp} {xT yT:TypeId} {x y:Operand} {k:IntKind} {u:Int} {v r:Value} (ho:o.op=.binOp op xT x y yT) (hx:evA t x=.val (.int k u)) (hy:evA t y=.val v)
 (h:binV op (.int k u) v=some r):LocalOK P o {rt:=rds [(x,.val (.int k u)),(y,.val v)],rh:=[],dst:=o.dst,v:=.val r} :=
 localOKn [(x,.val (.int k u)),(y,.val v)] [] _ (by simpa using ⟨hx,hy⟩) fun E σ a w β I _ hR _=>by
  have h1:=(hR (x,.val (.int k u)) (by simp)).val_inv
  have h2:=(hR (y,.val v) (by simp)).val_inv
  simp only at h1 h2
  exact ⟨r,by simp [execOp,ho,h1,h2,eqGuard_int,binV_run h],.val _ _⟩
def strV (op:BinOp) (u v:List UInt8):Option AV :=
 match op with
 | .eql=>some (.val (.bool (decide (u=v))))
 | .neq=>some (.val (.bool (!decide (u=v))))
 | .lss=>some (.val (.bool (Op.bytesLess u v)))
 | .leq=>some (.val (.bool (Op.bytesLess u v || decide (u=v))))
 | .gtr=>some (.val (.bool (!(Op.bytesLess u v || decide (u=v)))))
 | .geq=>some (.val (.bool (!Op.bytesLess u v)))
 | .add=>some (.str (u++v))
 | _=>none
theorem eqGuard_str {P:Program} {w:World} {op:BinOp} {t:TypeId} {x y:Operand} {s:ByteArray} {v:Value}:(eqGuard op t x y (.string s) v).run P w=.ok () w:=by
 rw [eqGuard_at_string];rfl
theorem beq_decide (u v:List UInt8):(u == v)=decide (u=v):=by
 rw [Bool.eq_iff_iff];simp
theorem ok_binStr {P:Program} {o:Oper} {t:Nat->AV} {op:BinOp} {xT yT:TypeId} {x y:Operand} {u v:List UInt8} {r:AV} (ho:o.op=.binOp op xT x y yT) (hx:evA t x=.str u) (hy:evA t y=.str v)
 (h:strV op u v=some r) (hb:op=.add->u.length+v.length<=maxLen):LocalOK P o {rt:=rds [(x,.str u),(y,.str v)],rh:=[],dst:=o.dst,v:=r} :=
 localOKn [(x,.str u),(y,.str v)] [] _ (by simpa using ⟨hx,hy⟩) fun E σ a w β I _ hR _=>by
  have h1:=(hR (x,.str u) (by simp)).str_inv
  have h2:=(hR (y,.str v) (by simp)).str_inv
  simp only at h1 h2
  cases op<;>simp only [strV,Option.some.injEq,reduceCtorEq] at h<;>subst h
  case add =>
   have hb':=hb rfl
   unfold maxLen at hb'
   refine ⟨_,?_,.str _ _⟩
   have hs:((⟨u.toArray⟩:ByteArray)++⟨v.toArray⟩)=⟨(u++v).toArray⟩:=by
    apply ByteArray.ext;simp
   have:¬ (((⟨u.toArray⟩:ByteArray).size+(⟨v.toArray⟩:ByteArray).size:Nat):Int) > IntKind.i64.max:=by
    simp [ByteArray.size];omega
   simp only [execOp,ho,h1,h2,Sem.run_bind,eqGuard_str,Result.andThen_ok,binOp,Op.stringOp,this,if_false,hs,Sem.run_pure]
  all_goals
   refine ⟨_,?_,.val _ _⟩
   simp only [execOp,ho,h1,h2,Sem.run_bind,eqGuard_str,Result.andThen_ok,binOp,Op.stringOp,Go.ByteArray.toList_mk,beq_decide,Sem.run_pure]
theorem ok_not {P:Program} {o:Oper} {t:Nat->AV} {xT:TypeId} {x:Operand} {b:Bool} (ho:o.op=.unOp .not xT x) (hx:evA t x=.val (.bool b)) :
 LocalOK P o {rt:=rds [(x,.val (.bool b))],rh:=[],dst:=o.dst,v:=.val (.bool (!b))} :=
 localOKn [(x,.val (.bool b))] [] _ (by simpa using hx) fun E σ a w β I _ hR _=>by
  have h1:=(hR (x,.val (.bool b)) (by simp)).val_inv
  simp only at h1
  exact ⟨_,by simp [execOp,ho,h1,Op.unary],.val _ _⟩
theorem ok_neg {P:Program} {o:Oper} {t:Nat->AV} {xT:TypeId} {x:Operand} {k:IntKind} {n:Int} (ho:o.op=.unOp .neg xT x) (hx:evA t x=.val (.int k n)) :
 LocalOK P o {rt:=rds [(x,.val (.int k n))],rh:=[],dst:=o.dst,v:=.val (.int k (k.wrap (0 - n)))} :=
 localOKn [(x,.val (.int k n))] [] _ (by simpa using hx) fun E σ a w β I _ hR _=>by
  have h1:=(hR (x,.val (.int k n)) (by simp)).val_inv
  simp only at h1
  exact ⟨_,by simp [execOp,ho,h1,Op.unary,Op.intArith],.val _ _⟩
theorem run_equalBool {P:Program} {w:World} {t:TypeId} {u v:Bool} (hT:P.underlying t=some .bool):(Op.equal t (.bool u) (.bool v)).run P w=.ok (u == v) w:=by
 have h:∀ d,(Op.equalIn (d+1) t (.bool u) (.bool v)).run P w=.ok (u == v) w:=by
  intro d
  rw [Op.equalIn]
  simp only [Sem.run_bind,run_underlying hT,Result.andThen_ok,Sem.run_pure]
 exact h 9999
theorem ok_eqBool {P:Program} {o:Oper} {t:Nat->AV} {xT yT:TypeId} {x y:Operand} {u v:Bool} (ho:o.op=.binOp .eql xT x y yT) (hT:P.underlying xT=some .bool)
 (hx:evA t x=.val (.bool u)) (hy:evA t y=.val (.bool v)) :
 LocalOK P o {rt:=rds [(x,.val (.bool u)),(y,.val (.bool v))],rh:=[],dst:=o.dst,v:=.val (.bool (u == v))} :=
 localOKn [(x,.val (.bool u)),(y,.val (.bool v))] [] _ (by simpa using ⟨hx,hy⟩) fun E σ a w β I _ hR _=>by
  have h1:=(hR (x,.val (.bool u)) (by simp)).val_inv
  have h2:=(hR (y,.val (.bool v)) (by simp)).val_inv
  simp only at h1 h2
  exact ⟨_,by simp only [execOp,ho,h1,h2,eqGuard_at_bool,binOp,Sem.run_bind,Sem.run_pure,Result.andThen_ok,run_equalBool hT],.val _ _⟩
theorem ok_neBool {P:Program} {o:Oper} {t:Nat->AV} {xT yT:TypeId} {x y:Operand} {u v:Bool} (ho:o.op=.binOp .neq xT x y yT) (hT:P.underlying xT=some .bool)
 (hx:evA t x=.val (.bool u)) (hy:evA t y=.val (.bool v)) :
 LocalOK P o {rt:=rds [(x,.val (.bool u)),(y,.val (.bool v))],rh:=[],dst:=o.dst,v:=.val (.bool (!(u == v)))} :=
 localOKn [(x,.val (.bool u)),(y,.val (.bool v))] [] _ (by simpa using ⟨hx,hy⟩) fun E σ a w β I _ hR _=>by
  have h1:=(hR (x,.val (.bool u)) (by simp)).val_inv
  have h2:=(hR (y,.val (.bool v)) (by simp)).val_inv
  simp only at h1 h2
  exact ⟨_,by simp only [execOp,ho,h1,h2,eqGuard_at_bool,binOp,Sem.run_bind,Sem.run_pure,Result.andThen_ok,run_equalBool hT],.val _ _⟩
theorem ok_convInt {P:Program} {o:Oper} {t:Nat->AV} {sT dT:TypeId} {x:Operand} {k j:IntKind} {n:Int} {ds:TypeDesc} (ho:o.op=.convert sT dT x) (hs:P.underlying sT=some ds) (hd:P.underlying dT=some (.int j))
 (hx:evA t x=.val (.int k n)) :
 LocalOK P o {rt:=rds [(x,.val (.int k n))],rh:=[],dst:=o.dst,v:=.val (.int j (j.wrap n))} :=
 localOKn [(x,.val (.int k n))] [] _ (by simpa using hx) fun E σ a w β I _ hR _=>by
  have h1:=(hR (x,.val (.int k n)) (by simp)).val_inv
  simp only at h1
  exact ⟨_,by simp [execOp,ho,h1,convert,run_underlying hs,run_underlying hd,Conv.intToInt],.val _ _⟩
theorem ok_indexStr {P:Program} {o:Oper} {t:Nat->AV} {xT:TypeId} {x ix:Operand} {l:List UInt8} {k:IntKind} {i:Int} {b:UInt8} (ho:o.op=.index xT x ix) (hT:P.underlying xT=some .string)
 (hx:evA t x=.str l) (hi:evA t ix=.val (.int k i)) (h0:0<=i) (hb:l[i.toNat]?=some b) :
 LocalOK P o {rt:=rds [(x,.str l),(ix,.val (.int k i))],rh:=[],dst:=o.dst,v:=.val (.int .u8 b.toNat)} :=
 localOKn [(x,.str l),(ix,.val (.int k i))] [] _ (by simpa using ⟨hx,hi⟩) fun E σ a w β I _ hR _=>by
  have h1:=(hR (x,.str l) (by simp)).str_inv
  have h2:=(hR (ix,.val (.int k i)) (by simp)).val_inv
  simp only at h1 h2
  refine ⟨_,?_,.val _ _⟩
  have hg:(⟨l.toArray⟩:ByteArray)[i.toNat]?=some b:=by
   have hlt:i.toNat<l.length:=(List.getElem?_eq_some_iff.1 hb).1
   have hv:=(List.getElem?_eq_some_iff.1 hb).2
   rw [getElem?_pos _ _ (by simpa [ByteArray.size] using hlt)]
   simp only [ByteArray.getElem_eq_getElem_data,List.getElem_toArray,hv]
  simp [execOp,ho,h1,h2,Instr.index,asIntOf,run_underlying hT,h0,hg]
theorem run_sliceBound {P:Program} {w:World} {k:IntKind} {i:Int} {y:Nat} {c:BoundsCode} (h0:0<=i) (hy:i<=y):(Instr.sliceBound (.int k i) y c).run P w=.ok i.toNat w:=by
 simp [Instr.sliceBound,asIntOf,h0,hy]
theorem run_sliceBounds {P:Program} {w:World} {b:Bool} {len cap l h:Nat} {lo hi:Option Value} (hlo:lo=none/\l=0\/∃ k i,lo=some (.int k i)/\0<=i/\i.toNat=l)
 (hhi:hi=none/\h=len\/∃ k i,hi=some (.int k i)/\0<=i/\i.toNat=h) (h1:l<=h) (h2:h<=cap) :
 (Instr.sliceBounds b len cap lo hi none).run P w=.ok (l,h,cap) w:=by
 unfold Instr.sliceBounds
 rcases hhi with ⟨rfl,rfl⟩|⟨k,i,rfl,hi0,rfl⟩<;>rcases hlo with ⟨rfl,rfl⟩|⟨k',i',rfl,hl0,rfl⟩
 ·simp
 ·simp [run_sliceBound (P:=P) (w:=w) hl0 (show i'<=(h:Int) by omega)]
 ·simp [run_sliceBound (P:=P) (w:=w) hi0 (show i<=(cap:Int) by omega)]
 ·simp [run_sliceBound (P:=P) (w:=w) hi0 (show i<=(cap:Int) by omega),run_sliceBound (P:=P) (w:=w) hl0 (show i'<=(i.toNat:Int) by omega)]
end Go.Ac

namespace Go.Ac
open Go
theorem flats_take {n:Nat}:∀ (l:List AV) (k:Nat),(∀ e ∈ l,e.flat.length=n)->(flats l).take (k * n)=flats (l.take k)
 | [],k,_=>by simp [flats]
 | a::l,0,_=>by simp [flats]
 | a::l,k+1,h=>by
  have h1:=h a (by simp)
  have h2:=flats_take l k (fun e he=>h e (by simp [he]))
  rw [List.take_succ_cons]
  simp only [flats]
  rw [<-h2,Nat.add_mul,Nat.one_mul,Nat.add_comm,List.take_append]
  simp [h1,List.take_of_length_le]
theorem flats_drop {n:Nat}:∀ (l:List AV) (k:Nat),(∀ e ∈ l,e.flat.length=n)->(flats l).drop (k * n)=flats (l.drop k)
 | [],k,_=>by simp [flats]
 | a::l,0,_=>by simp [flats]
 | a::l,k+1,h=>by
  have h1:=h a (by simp)
  have h2:=flats_drop l k (fun e he=>h e (by simp [he]))
  rw [List.drop_succ_cons]
  simp only [flats]
  rw [<-h2,Nat.add_mul,Nat.one_mul,Nat.add_comm,List.drop_append]
  simp [h1]
theorem flats_get {n:Nat}:∀ (l:List AV) (k:Nat) (e:AV),(∀ e ∈ l,e.flat.length=n)->l[k]?=some e->((flats l).drop (k * n)).take n=e.flat
 | [],k,e,_,he=>by simp at he
 | a::l,0,e,h,he=>by
  simp at he;subst he
  have h1:=h a (by simp)
  simp [flats,<-h1]
 | a::l,k+1,e,h,he=>by
  have h1:=h a (by simp)
  simp at he
  have h2:=flats_get l k e (fun e he=>h e (by simp [he])) he
  simp only [flats]
  rw [<-h2,Nat.add_mul,Nat.one_mul,Nat.add_comm,List.drop_append,List.drop_eq_nil_of_le (by omega)]
  simp [h1]
theorem ok_sliceStr {P:Program} {o:Oper} {t:Nat->AV} {T:TypeId} {x:Operand} {lo hi:Option Operand} {s:List UInt8} {xlo xhi:List (Operand×AV)} {l h:Nat}
 (ho:o.op=.slice T x lo hi none) (hT:P.underlying T=some .string) (hx:evA t x=.str s)
 (hlo:lo=none/\l=0/\xlo=[]\/∃ y k i,lo=some y/\evA t y=.val (.int k i)/\0<=i/\i.toNat=l/\xlo=[(y,.val (.int k i))])
 (hhi:hi=none/\h=s.length/\xhi=[]\/∃ y k i,hi=some y/\evA t y=.val (.int k i)/\0<=i/\i.toNat=h/\xhi=[(y,.val (.int k i))])
 (h1:l<=h) (h2:h<=s.length) :
 LocalOK P o {rt:=rds ((x,.str s)::(xlo++xhi)),rh:=[],dst:=o.dst,v:=.str ((s.take h).drop l)} :=
 localOKn ((x,.str s)::(xlo++xhi)) [] _ (by
  intro p hp
  simp only [List.mem_cons,List.mem_append] at hp
  rcases hp with rfl|hp|hp
  ·exact hx
  ·rcases hlo with ⟨_,_,rfl⟩|⟨y,k,i,_,hy,_,_,rfl⟩
   ·simp at hp
   ·simp at hp;subst hp;exact hy
  ·rcases hhi with ⟨_,_,rfl⟩|⟨y,k,i,_,hy,_,_,rfl⟩
   ·simp at hp
   ·simp at hp;subst hp;exact hy) fun E σ a w β I _ hR _=>by
  have e1:=(hR (x,.str s) (by simp)).str_inv
  simp only at e1
  refine ⟨.string ⟨((s.take h).drop l).toArray⟩,?_,.str _ _⟩
  have hb:(Instr.sliceBounds false s.length s.length (lo.map a.eval) (hi.map a.eval) none).run P w=.ok (l,h,s.length) w:=by
   refine run_sliceBounds ?_ ?_ h1 h2
   ·rcases hlo with ⟨rfl,rfl,_⟩|⟨y,k,i,rfl,hy,h0,rfl,rfl⟩
    ·exact .inl ⟨rfl,rfl⟩
    ·exact .inr ⟨k,i,by simpa using (hR (y,.val (.int k i)) (by simp)).val_inv,h0,rfl⟩
   ·rcases hhi with ⟨rfl,rfl,_⟩|⟨y,k,i,rfl,hy,h0,rfl,rfl⟩
    ·exact .inl ⟨rfl,rfl⟩
    ·exact .inr ⟨k,i,by simpa using (hR (y,.val (.int k i)) (by simp)).val_inv,h0,rfl⟩
  have hex:(⟨s.toArray⟩:ByteArray).extract l h=⟨((s.take h).drop l).toArray⟩:=by
   apply ByteArray.ext
   simp [List.drop_take]
  have hsz:(⟨s.toArray⟩:ByteArray).size=s.length:=by simp [ByteArray.size]
  simp only [execOp,ho,e1,Instr.sliceAt,Instr.slice,Sem.run_bind,run_underlying hT,Result.andThen_ok,Option.map_none,Option.isSome_none,Bool.false_eq_true,if_false,hsz,hb,hex,Sem.run_pure]
def Bnd (t:Nat->AV) (b:Option Operand) (xs:List (Operand×AV)) (d v:Nat):Prop :=
 b=none/\v=d/\xs=[]\/∃ y k i,b=some y/\evA t y=.val (.int k i)/\0<=i/\i.toNat=v/\xs=[(y,.val (.int k i))]
theorem Bnd.mem {t:Nat->AV} {b:Option Operand} {xs:List (Operand×AV)} {d v:Nat} (h:Bnd t b xs d v):∀ p ∈ xs,evA t p.1=p.2:=by
 rcases h with ⟨_,_,rfl⟩|⟨y,k,i,_,hy,_,_,rfl⟩
 ·simp
 ·intro p hp;simp at hp;subst hp;exact hy
theorem Bnd.run {t:Nat->AV} {b:Option Operand} {xs:List (Operand×AV)} {d v:Nat} (h:Bnd t b xs d v) {a:Act} {β:Nat->Plc} {D I:Nat->Prop} {H:Array Obj}
 (hR:∀ p ∈ xs,R β D I H true p.2 (a.eval p.1)):b.map a.eval=none/\v=d\/∃ k i,b.map a.eval=some (.int k i)/\0<=i/\i.toNat=v:=by
 rcases h with ⟨rfl,rfl,_⟩|⟨y,k,i,rfl,hy,h0,rfl,rfl⟩
 ·exact .inl ⟨rfl,rfl⟩
 ·exact .inr ⟨k,i,by simpa using (hR (y,.val (.int k i)) (by simp)).val_inv,h0,rfl⟩
theorem addr_add (b o k:Nat):(⟨b,o,none⟩:Addr).add k=⟨b,o+k,none⟩:=by unfold Addr.add;split<;>simp_all
theorem addr_add' (a:Addr) (k:Nat) (h:a.spot=none):a.add k=⟨a.block,a.off+k,none⟩:=by
 obtain ⟨b,o,s⟩:=a;simp only at h;subst h;exact addr_add b o k
theorem run_sizeOf' {P:Program} {w:World} {t:TypeId} {i:TypeInfo} (h:P.info? t=some i):(sizeOf t).run P w=.ok i.size w:=by
 simp [sizeOf,typeInfo,h]
theorem ok_sliceSl {P:Program} {o:Oper} {t:Nat->AV} {T e:TypeId} {i:TypeInfo} {x:Operand} {lo hi:Option Operand} {n:Nat} {els rest:List AV} {xlo xhi:List (Operand×AV)} {l h:Nat}
 (ho:o.op=.slice T x lo hi none) (hT:P.underlying T=some (.slice e)) (hi':P.info? e=some i) (hn:i.size=n) (hx:evA t x=.sl n els rest)
 (hlo:Bnd t lo xlo 0 l) (hhi:Bnd t hi xhi els.length h) (h1:l<=h) (h2:h<=els.length+rest.length) :
 LocalOK P o {rt:=rds ((x,.sl n els rest)::(xlo++xhi)),rh:=[],dst:=o.dst,v:=.sl n (((els++rest).take h).drop l) ((els++rest).drop h)} :=
 localOKn ((x,.sl n els rest)::(xlo++xhi)) [] _ (by
  intro p hp
  simp only [List.mem_cons,List.mem_append] at hp
  rcases hp with rfl|hp|hp
  ·exact hx
  ·exact hlo.mem p hp
  ·exact hhi.mem p hp) fun E σ a w β I _ hR _=>by
  have e1:=hR (x,.sl n els rest) (by simp)
  simp only at e1
  generalize hv:a.eval x=v at e1
  have b1:=hlo.run (a:=a) (fun p hp=>hR p (by simp [hp]))
  have b2:=hhi.run (a:=a) (fun p hp=>hR p (by simp [hp]))
  cases e1 with
  | sl0 =>
   rename_i base
   have hl:l=0:=by simp at h2;omega
   have hh:h=0:=by simp at h2;omega
   subst hl hh
   have hb:(Instr.sliceBounds true 0 0 (lo.map a.eval) (hi.map a.eval) none).run P w=.ok (0,0,0) w:=run_sliceBounds b1 b2 (by omega) (by omega)
   refine ⟨.slice base 0 0,?_,by simpa using R.sl0⟩
   simp only [execOp,ho,hv,Instr.sliceAt,Instr.slice,Sem.run_bind,run_underlying hT,Result.andThen_ok,Option.map_none,hb,run_sizeOf' hi',Sem.run_pure,if_true,Nat.sub_self]
  | sl vs g1 g2 g3 g4 g4' g5 g6 g7 g8 g9 =>
   rename_i ad cap arr U fz
   have hb:(Instr.sliceBounds true els.length cap (lo.map a.eval) (hi.map a.eval) none).run P w=.ok (l,h,cap) w:=run_sliceBounds b1 b2 h1 (by omega)
   have hlen:(((els++rest).take h).drop l).length=h - l:=by simp;omega
   refine ⟨.slice (if cap=l then some ad else (some ad).map (·.add (l * i.size))) (h - l) (cap - l),?_,?_⟩
   ·simp only [execOp,ho,hv,Instr.sliceAt,Instr.slice,Sem.run_bind,run_underlying hT,Result.andThen_ok,Option.map_none,hb,run_sizeOf' hi',Sem.run_pure]
   ·by_cases hc:cap=l
    ·have hh:h=l:=by omega
     subst hh
     have e2:((els++rest).take h).drop h=[]:=by simp
     have e3:(els++rest).drop h=[]:=by simp;omega
     rw [e2,e3,if_pos hc,hc]
     simp only [Nat.sub_self]
     exact .sl0
    ·rw [if_neg hc,<-hlen]
     have hall:∀ e ∈ els++rest,e.flat.length=n:=fun e he=>by
      rcases List.mem_append.1 he with he|he
      ·exact g4 e he
      ·exact g4' e he
     have hcat:((els++rest).take h).drop l++(els++rest).drop h=(els++rest).drop l:=by
      rw [List.drop_take]
      have:(els++rest).drop h=((els++rest).drop l).drop (h - l):=by rw [List.drop_drop];congr 1;omega
      rw [this,List.take_append_drop]
     rw [Option.map_some,hn]
     refine .sl (vs.drop (l * n)) (a:=ad.add (l * n)) (cap:=cap - l) (arr:=arr) (T:=U) (fz:=fz) ?_ ?_ ?_ ?_ ?_ ?_ ?_ ?_ ?_ ?_
     ·rw [addr_add' _ _ g2];exact g1
     ·rw [addr_add' _ _ g2]
     ·rw [addr_add' _ _ g2];exact g3
     ·exact fun e he=>hall e (List.mem_of_mem_take (List.mem_of_mem_drop he))
     ·exact fun e he=>hall e (List.mem_of_mem_drop he)
     ·simp;omega
     ·omega
     ·rw [<-flats_append,hcat,<-flats_drop _ _ hall,flats_append]
      exact g7.drop _
     ·exact fun v hv=>g8 v (List.mem_of_mem_drop hv)
     ·intro j v hv
      rw [addr_add' _ _ g2]
      simp only [List.getElem?_drop] at hv
      have:=g9 _ _ hv
      show arr[ad.off+l * n+j]?=_
      rw [<-this];congr 1;omega
theorem ok_sliceGs {P:Program} {o:Oper} {t:Nat->AV} {T e:TypeId} {i:TypeInfo} {x:Operand} {lo hi:Option Operand} {n k i0 len:Nat} {els:List AV} {st:St} {xlo xhi:List (Operand×AV)} {l h:Nat}
 (ho:o.op=.slice T x lo hi none) (hT:P.underlying T=some (.slice e)) (hi':P.info? e=some i) (hn:i.size=n) (hx:evA t x=.gs k i0 len)
 (hlo:Bnd t lo xlo 0 l) (hhi:Bnd t hi xhi len h) (h1:l<=h) (h2:h<=len) :
 LocalOK P o {rt:=rds ((x,.gs k i0 len)::(xlo++xhi)),rh:=[(k,some (.arr e n els st))],dst:=o.dst,v:=.gs k (i0+l) (h - l)} :=
 localOKn ((x,.gs k i0 len)::(xlo++xhi)) [(k,some (.arr e n els st))] _ (by
  intro p hp
  simp only [List.mem_cons,List.mem_append] at hp
  rcases hp with rfl|hp|hp
  ·exact hx
  ·exact hlo.mem p hp
  ·exact hhi.mem p hp) fun E σ a w β I r hR hh=>by
  have e1:=hR (x,.gs k i0 len) (by simp)
  simp only at e1
  generalize hv:a.eval x=v at e1
  have b1:=hlo.run (a:=a) (fun p hp=>hR p (by simp [hp]))
  have b2:=hhi.run (a:=a) (fun p hp=>hR p (by simp [hp]))
  have hk:=hh (k,some (.arr e n els st)) (by simp)
  have hge:=r.inv.ge k _ hk
  cases e1 with
  | gs d1 d2 d3 d4 =>
   rename_i cap base
   have hb:(Instr.sliceBounds true len cap (lo.map a.eval) (hi.map a.eval) none).run P w=.ok (l,h,cap) w:=run_sliceBounds b1 b2 h1 (by omega)
   refine ⟨.slice (if cap=l then base else base.map (·.add (l * i.size))) (h - l) (cap - l),?_,?_⟩
   ·simp only [execOp,ho,hv,Instr.sliceAt,Instr.slice,Sem.run_bind,run_underlying hT,Result.andThen_ok,Option.map_none,hb,run_sizeOf' hi',Sem.run_pure]
   ·have hn':(β k).n=n:=hge.1
    refine .gs d1 (by omega) (by omega) ?_
    by_cases hc:cap=l
    ·left
     refine ⟨by omega,?_⟩
     rcases d4 with ⟨d4,d5⟩|⟨d4,d5⟩
     ·rw [<-d5];congr 1;omega
     ·rw [<-d5];congr 1;omega
    ·right
     rcases d4 with ⟨d4,_⟩|⟨d4,d5⟩
     ·omega
     ·rw [if_neg hc,d4,Option.map_some,addr_add,hn,hn']
      refine ⟨by rw [Nat.add_mul],?_⟩
      rw [<-d5,hn'];congr 1;omega
theorem ok_sliceNil {P:Program} {o:Oper} {t:Nat->AV} {T e:TypeId} {i:TypeInfo} {x:Operand} {lo hi:Option Operand} {xlo xhi:List (Operand×AV)}
 (ho:o.op=.slice T x lo hi none) (hT:P.underlying T=some (.slice e)) (hi':P.info? e=some i) (hx:evA t x=.val (.slice none 0 0))
 (hlo:Bnd t lo xlo 0 0) (hhi:Bnd t hi xhi 0 0) :
 LocalOK P o {rt:=rds ((x,.val (.slice none 0 0))::(xlo++xhi)),rh:=[],dst:=o.dst,v:=.val (.slice none 0 0)} :=
 localOKn ((x,.val (.slice none 0 0))::(xlo++xhi)) [] _ (by
  intro p hp
  simp only [List.mem_cons,List.mem_append] at hp
  rcases hp with rfl|hp|hp
  ·exact hx
  ·exact hlo.mem p hp
  ·exact hhi.mem p hp) fun E σ a w β I r hR hh=>by
  have e1:=(hR (x,.val (.slice none 0 0)) (by simp)).val_inv
  simp only at e1
  have b1:=hlo.run (a:=a) (fun p hp=>hR p (by simp [hp]))
  have b2:=hhi.run (a:=a) (fun p hp=>hR p (by simp [hp]))
  have hb:(Instr.sliceBounds true 0 0 (lo.map a.eval) (hi.map a.eval) none).run P w=.ok (0,0,0) w:=run_sliceBounds b1 b2 (by omega) (by omega)
  refine ⟨.slice none 0 0,?_,.val _ _⟩
  simp only [execOp,ho,e1,Instr.sliceAt,Instr.slice,Sem.run_bind,run_underlying hT,Result.andThen_ok,Option.map_none,hb,run_sizeOf' hi',Sem.run_pure,if_true,Nat.sub_self]
def lenV:AV->Option Nat
 | .str l=>some l.length
 | .sl _ els _=>some els.length
 | .gs _ _ len=>some len
 | .val (.slice none 0 0)=>some 0
 | _=>none
def Lenny (P:Program) (T:TypeId):AV->Prop
 | .str _=>P.underlying T=some .string
 | _=>∃ e,P.underlying T=some (.slice e)
theorem ok_len {P:Program} {o:Oper} {t:Nat->AV} {T:TypeId} {x:Operand} {X:AV} {n:Nat} (ho:o.op=.call {callee:=.builtin .len,args:=#[x],argTypes:=#[T]})
 (hT:Lenny P T X) (hx:evA t x=X) (hn:lenV X=some n) :
 LocalOK P o {rt:=rds [(x,X)],rh:=[],dst:=o.dst,v:=.val (.int .i64 n)} :=
 localOKn [(x,X)] [] _ (by simpa using hx) fun E σ a w β I _ hR _=>by
  have e1:=hR (x,X) (by simp)
  simp only at e1
  generalize hv:a.eval x=v at e1
  refine ⟨.int .i64 n,?_,.val _ _⟩
  unfold lenV at hn
  split at hn
  case h_1 =>
   cases e1;cases hn
   simp only [Lenny] at hT
   have hs:∀ l:List UInt8,(⟨l.toArray⟩:ByteArray).size=l.length:=fun l=>by simp [ByteArray.size]
   simp only [execOp,ho,resolve,invoke,builtin,hv,Builtin.len_,run_underlying hT,goInt,hs,Sem.run_bind,Sem.run_pure,Result.andThen_ok,List.map_toArray,List.map_cons,List.map_nil,List.getElem?_toArray,List.getElem?_cons_zero]
  case h_2 =>
   obtain ⟨e,hT⟩:=hT
   cases hn
   cases e1<;>simp [execOp,ho,resolve,invoke,builtin,hv,Builtin.len_,run_underlying hT,goInt]
  case h_3 =>
   obtain ⟨e,hT⟩:=hT
   cases hn;cases e1
   simp [execOp,ho,resolve,invoke,builtin,hv,Builtin.len_,run_underlying hT,goInt]
  case h_4 =>
   obtain ⟨e,hT⟩:=hT
   cases hn;cases e1
   simp [execOp,ho,resolve,invoke,builtin,hv,Builtin.len_,run_underlying hT,goInt]
  case h_5=>cases hn
theorem ok_indexAddrSl {P:Program} {o:Oper} {t:Nat->AV} {T e:TypeId} {i:TypeInfo} {x ix:Operand} {n:Nat} {els rest:List AV} {el:AV} {k:IntKind} {j:Int}
 (ho:o.op=.indexAddr T x ix) (hT:P.underlying T=some (.slice e)) (hi:P.info? e=some i) (hn:i.size=n) (hx:evA t x=.sl n els rest) (hix:evA t ix=.val (.int k j))
 (h0:0<=j) (hel:els[j.toNat]?=some el) :
 LocalOK P o {rt:=rds [(x,.sl n els rest),(ix,.val (.int k j))],rh:=[],dst:=o.dst,v:=.ip el 0} :=
 localOKn [(x,.sl n els rest),(ix,.val (.int k j))] [] _ (by simpa using ⟨hx,hix⟩) fun E σ a w β I _ hR _=>by
  have e1:=hR (x,.sl n els rest) (by simp)
  have e2:=(hR (ix,.val (.int k j)) (by simp)).val_inv
  simp only at e1 e2
  generalize hv:a.eval x=v at e1
  have hlt:j.toNat<els.length:=(List.getElem?_eq_some_iff.1 hel).1
  cases e1 with
  | sl0=>simp at hlt
  | sl vs g1 g2 g3 g4 g4' g5 g6 g7 g8 g9 =>
   rename_i ad cap arr U fz
   have hall:∀ e ∈ els++rest,e.flat.length=n:=fun e he=>by
    rcases List.mem_append.1 he with he|he
    ·exact g4 e he
    ·exact g4' e he
   refine ⟨.pointer (some ⟨ad.block,ad.off+j.toNat * n+0,none⟩),?_,?_⟩
   ·simp only [execOp,ho,hv,e2,Instr.indexAt,asIntOf,Sem.run_bind,Sem.run_pure,run_underlying hT,Result.andThen_ok]
    rw [if_pos ⟨h0,by omega⟩]
    simp only [Sem.run_bind,run_sizeOf' hi,Result.andThen_ok,Sem.run_pure,addr_add' _ _ g2,hn,Nat.add_zero]
   ·have hfl:((flats els++flats rest).drop (j.toNat * n)).take n=el.flat:=by
     rw [<-flats_append]
     exact flats_get _ _ _ hall (by rw [List.getElem?_append_left hlt];exact hel)
    refine .ip ((vs.drop (j.toNat * n)).take n) g1 g3 ?_ ?_ ?_
    ·rw [<-hfl];exact (g7.drop _).take _
    ·exact fun v hv=>g8 v (List.mem_of_mem_drop (List.mem_of_mem_take hv))
    ·intro q v hv
     rw [List.getElem?_take] at hv
     split at hv
     ·rw [List.getElem?_drop] at hv
      rw [<-g9 _ _ hv];congr 1;omega
     ·cases hv
theorem ok_indexAddrGs {P:Program} {o:Oper} {t:Nat->AV} {T e:TypeId} {i:TypeInfo} {x ix:Operand} {n q i0 len:Nat} {els:List AV} {st:St} {k:IntKind} {j:Int}
 (ho:o.op=.indexAddr T x ix) (hT:P.underlying T=some (.slice e)) (hi:P.info? e=some i) (hn:i.size=n) (hx:evA t x=.gs q i0 len) (hix:evA t ix=.val (.int k j))
 (h0:0<=j) (hlt:j<len) :
 LocalOK P o {rt:=rds [(x,.gs q i0 len),(ix,.val (.int k j))],rh:=[(q,some (.arr e n els st))],dst:=o.dst,v:=.ge q (i0+j.toNat) 0} :=
 localOKn [(x,.gs q i0 len),(ix,.val (.int k j))] [(q,some (.arr e n els st))] _ (by simpa using ⟨hx,hix⟩) fun E σ a w β I r hR hh=>by
  have e1:=hR (x,.gs q i0 len) (by simp)
  have e2:=(hR (ix,.val (.int k j)) (by simp)).val_inv
  simp only at e1 e2
  generalize hv:a.eval x=v at e1
  have hge:=r.inv.ge q _ (hh (q,some (.arr e n els st)) (by simp))
  have hn':(β q).n=n:=hge.1
  cases e1 with
  | gs d1 d2 d3 d4 =>
   rename_i cap base
   rcases d4 with ⟨d4,_⟩|⟨d4,d5⟩
   ·omega
   ·refine ⟨.pointer (some ⟨(β q).b,(i0+j.toNat) * (β q).n+0,none⟩),?_,.ge d1⟩
    simp only [execOp,ho,hv,d4,e2,Instr.indexAt,asIntOf,Sem.run_bind,Sem.run_pure,run_underlying hT,Result.andThen_ok]
    rw [if_pos ⟨h0,by omega⟩]
    simp only [Sem.run_bind,run_sizeOf' hi,Result.andThen_ok,Sem.run_pure,addr_add,hn,hn',Nat.add_zero,Nat.add_mul]
def fieldV (c:Nat):AV->Option AV
 | .gp k d=>some (.gp k (d+c))
 | .ip el d=>some (.ip el (d+c))
 | .ge k i d=>some (.ge k i (d+c))
 | _=>none
theorem ok_fieldAddr {P:Program} {o:Oper} {t:Nat->AV} {T:TypeId} {x:Operand} {X Y:AV} {f:Nat} {fs:Array Field} {fd:Field} {i:TypeInfo}
 (ho:o.op=.fieldAddr T x f) (hT:P.underlying T=some (.struct fs)) (hf:fs[f]?=some fd) (hi:P.info? fd.type=some i) (hz:i.size ≠ 0) (hx:evA t x=X) (hY:fieldV fd.offset X=some Y) :
 LocalOK P o {rt:=rds [(x,X)],rh:=[],dst:=o.dst,v:=Y} :=
 localOKn [(x,X)] [] _ (by simpa using hx) fun E σ a w β I _ hR _=>by
  have e1:=hR (x,X) (by simp)
  simp only at e1
  generalize hv:a.eval x=v at e1
  have hrun:∀ ad:Addr,a.eval x=.pointer (some ad)->(execOp a.eval o).run P w=.ok (.value (.pointer (some (ad.add fd.offset)))) w:=by
   intro ad had
   simp only [execOp,ho,had,Instr.fieldAt,Sem.run_bind,run_underlying hT,Result.andThen_ok,hf,Instr.sureAddr,Sem.run_pure,fieldPlace,run_sizeOf' hi,hz,if_false]
  unfold fieldV at hY
  split at hY<;>cases hY
  ·cases e1 with
   | gp d=>exact ⟨_,hrun _ hv,by rw [addr_add];exact .gp d⟩
  ·cases e1 with
   | ip vs g1 g2 g3 g4 g5=>exact ⟨_,hrun _ hv,by rw [addr_add,Nat.add_assoc];exact .ip vs g1 g2 g3 g4 g5⟩
  ·cases e1 with
   | ge d=>exact ⟨_,hrun _ hv,by rw [addr_add,Nat.add_assoc];exact .ge d⟩
theorem ok_indexAddrArr {P:Program} {o:Oper} {t:Nat->AV} {T e:TypeId} {x ix:Operand} {X Y:AV} {n:Nat} {i:TypeInfo} {k:IntKind} {j:Int}
 (ho:o.op=.indexAddr T x ix) (hT:P.underlying T=some (.array n e)) (hi:P.info? e=some i) (hx:evA t x=X) (hix:evA t ix=.val (.int k j)) (h0:0<=j) (hlt:j<n) (hY:fieldV (j.toNat * i.size) X=some Y) :
 LocalOK P o {rt:=rds [(x,X),(ix,.val (.int k j))],rh:=[],dst:=o.dst,v:=Y} :=
 localOKn [(x,X),(ix,.val (.int k j))] [] _ (by simpa using ⟨hx,hix⟩) fun E σ a w β I _ hR _=>by
  have e1:=hR (x,X) (by simp)
  have e2:=(hR (ix,.val (.int k j)) (by simp)).val_inv
  simp only at e1 e2
  generalize hv:a.eval x=v at e1
  have hrun:∀ ad:Addr,a.eval x=.pointer (some ad)->(execOp a.eval o).run P w=.ok (.value (.pointer (some (ad.add (j.toNat * i.size))))) w:=by
   intro ad had
   simp only [execOp,ho,had,e2,Instr.indexAt,asIntOf,Instr.sureAddr,Sem.run_bind,Sem.run_pure,run_underlying hT,Result.andThen_ok]
   rw [if_pos ⟨h0,hlt⟩]
   simp only [Sem.run_bind,run_sizeOf' hi,Result.andThen_ok,Sem.run_pure]
  unfold fieldV at hY
  split at hY<;>cases hY
  ·cases e1 with
   | gp d=>exact ⟨_,hrun _ hv,by rw [addr_add];exact .gp d⟩
  ·cases e1 with
   | ip vs g1 g2 g3 g4 g5=>exact ⟨_,hrun _ hv,by rw [addr_add,Nat.add_assoc];exact .ip vs g1 g2 g3 g4 g5⟩
  ·cases e1 with
   | ge d=>exact ⟨_,hrun _ hv,by rw [addr_add,Nat.add_assoc];exact .ge d⟩
def descAgg:TypeDesc->Bool
 | .struct _|.array _ _=>true
 | _=>false
theorem run_isAgg {P:Program} {w:World} {t:TypeId} {d:TypeDesc} (h:P.underlying t=some d):(isAgg t).run P w=.ok (descAgg d) w:=by
 cases d<;>simp [isAgg,run_underlying h,descAgg]
def ldV (agg:Bool) (size:Nat) (el:AV) (c:Nat):Option AV :=
 if agg then
  if c=0/\el.isAgg=true/\el.flat.length=size then some el
  else if c+size<=el.flat.length then some (.agg ((el.flat.drop c).take size)) else none
 else el.flat[c]?
theorem ld_run {P:Program} {w:World} {β:Nat->Plc} {D I:Nat->Prop} {H:Array Obj} {m:Bool} {t:TypeId} {d:TypeDesc} {i:TypeInfo} {el X:AV} {c b p:Nat} {vs:List Value}
 (hd:P.underlying t=some d) (hi:P.info? t=some i) (hX:ldV (descAgg d) i.size el c=some X) (hR:RL β D I H m el.flat vs)
 (hc:∀ j v,vs[j]?=some v->w.cell? ⟨b,p+j,none⟩=some v):∃ v,(loadVar t ⟨b,p+c,none⟩).run P w=.ok v w/\R β D I H m X v:=by
 unfold ldV at hX
 cases ha:descAgg d with
 | false =>
  simp only [ha,Bool.false_eq_true,if_false] at hX
  obtain ⟨v,hv,hr⟩:=hR.get' c X hX
  refine ⟨v,?_,hr⟩
  simp only [loadVar,Sem.run_bind,run_isAgg hd,ha,Result.andThen_ok,Bool.false_eq_true,if_false,run_load,hc c v hv]
 | true =>
  simp only [ha,if_true] at hX
  have key:∀ us:List Value,us=(vs.drop c).take i.size->us.length=i.size->(loadVar t ⟨b,p+c,none⟩).run P w=.ok (.agg us.toArray) w:=by
   intro us hus hlen
   have:=run_loadCells_list (P:=P) w ⟨b,p+c,none⟩ us (fun j v hv=>by
    rw [addr_add]
    rw [hus,List.getElem?_take] at hv
    split at hv
    ·rw [List.getElem?_drop] at hv
     rw [Nat.add_assoc];exact hc _ _ hv
    ·cases hv)
   rw [hlen] at this
   simp only [loadVar,Sem.run_bind,run_isAgg hd,ha,Result.andThen_ok,if_true,run_sizeOf' hi,this,Sem.run_pure]
  split at hX
  ·rename_i hc0
   obtain ⟨rfl,h1,h2⟩:=hc0
   cases hX
   have hl:=hR.length
   refine ⟨.agg vs.toArray,key vs (by rw [List.drop_zero,List.take_of_length_le (by omega)]) (by omega),?_⟩
   rw [AV.flat_isAgg h1]
   exact .agg hR
  ·split at hX
   ·rename_i hle
    cases hX
    have hl:=hR.length
    refine ⟨_,key _ rfl (by simp;omega),.agg ((hR.drop c).take _)⟩
   ·cases hX
theorem cell_of_cells {w:World} {b:Nat} {arr:Array Value} {T:TypeId} {fz:Nat×Nat} (h:w.heap[b]?=some (.cells arr T fz)) (o:Nat):w.cell? ⟨b,o,none⟩=arr[o]?:=by
 simp [World.cell?,h]
theorem ok_loadBox {P:Program} {o:Oper} {t:Nat->AV} {T:TypeId} {d:TypeDesc} {i:TypeInfo} {x:Operand} {k c:Nat} {el X:AV} {st:St}
 (ho:o.op=.load T x) (hd:P.underlying T=some d) (hi:P.info? T=some i) (hx:evA t x=.gp k c) (hX:ldV (descAgg d) i.size el c=some X) :
 LocalOK P o {rt:=rds [(x,.gp k c)],rh:=[(k,some (.box el st))],dst:=o.dst,v:=X} :=
 localOKn [(x,.gp k c)] [(k,some (.box el st))] _ (by simpa using hx) fun E σ a w β I r hR hh=>by
  have e1:=hR (x,.gp k c) (by simp)
  simp only at e1
  generalize hv:a.eval x=v at e1
  obtain ⟨vs,U,g1,g2,g3,g4,_⟩:=r.inv.ge k _ (hh (k,some (.box el st)) (by simp))
  cases e1 with
  | gp dk =>
   obtain ⟨u,h1,h2⟩:=ld_run (P:=P) (w:=w) (b:=(β k).b) (p:=0) hd hi hX g3 (fun j v hv=>by rw [cell_of_cells g2,Nat.zero_add];simpa using hv)
   rw [Nat.zero_add] at h1
   refine ⟨u,by simp only [execOp,ho,hv,Instr.loadAt,Instr.sureAddr,Sem.run_bind,Sem.run_pure,Result.andThen_ok,h1],?_⟩
   cases hs:decide (st ≠ .frz) with
   | true=>rw [hs] at h2;exact h2
   | false=>rw [hs] at h2;exact h2.closed (fun b hb=>⟨hb,rfl⟩) rfl true
theorem ok_loadIp {P:Program} {o:Oper} {t:Nat->AV} {T:TypeId} {d:TypeDesc} {i:TypeInfo} {x:Operand} {c:Nat} {el X:AV}
 (ho:o.op=.load T x) (hd:P.underlying T=some d) (hi:P.info? T=some i) (hx:evA t x=.ip el c) (hX:ldV (descAgg d) i.size el c=some X) :
 LocalOK P o {rt:=rds [(x,.ip el c)],rh:=[],dst:=o.dst,v:=X} :=
 localOKn [(x,.ip el c)] [] _ (by simpa using hx) fun E σ a w β I r hR hh=>by
  have e1:=hR (x,.ip el c) (by simp)
  simp only at e1
  generalize hv:a.eval x=v at e1
  cases e1 with
  | ip vs g1 g2 g3 g4 g5 =>
   rename_i b p arr U fz
   obtain ⟨u,h1,h2⟩:=ld_run (P:=P) (w:=w) (b:=b) (p:=p) hd hi hX g3 (fun j v hv=>by rw [cell_of_cells g2];exact g5 _ _ hv)
   exact ⟨u,by simp only [execOp,ho,hv,Instr.loadAt,Instr.sureAddr,Sem.run_bind,Sem.run_pure,Result.andThen_ok,h1],h2.closed (fun b hb=>⟨hb,rfl⟩) rfl true⟩
theorem ok_loadGe {P:Program} {o:Oper} {t:Nat->AV} {T e:TypeId} {d:TypeDesc} {i:TypeInfo} {x:Operand} {k j c n:Nat} {els:List AV} {el X:AV} {st:St}
 (ho:o.op=.load T x) (hd:P.underlying T=some d) (hi:P.info? T=some i) (hx:evA t x=.ge k j c) (hel:els[j]?=some el) (hX:ldV (descAgg d) i.size el c=some X) :
 LocalOK P o {rt:=rds [(x,.ge k j c)],rh:=[(k,some (.arr e n els st))],dst:=o.dst,v:=X} :=
 localOKn [(x,.ge k j c)] [(k,some (.arr e n els st))] _ (by simpa using hx) fun E σ a w β I r hR hh=>by
  have e1:=hR (x,.ge k j c) (by simp)
  simp only at e1
  generalize hv:a.eval x=v at e1
  obtain ⟨g1,g2,g3,g4⟩:=r.inv.ge k _ (hh (k,some (.arr e n els st)) (by simp))
  have hlt:j<els.length:=(List.getElem?_eq_some_iff.1 hel).1
  rcases g4 with ⟨_,rfl⟩|⟨g4,vs,g5,g6,g7,g8,_⟩
  ·simp at hlt
  ·cases e1 with
   | ge dk =>
    have hfl:=flats_get els j el g3 hel
    obtain ⟨u,h1,h2⟩:=ld_run (P:=P) (w:=w) (b:=(β k).b) (p:=j * n) (vs:=((vs.toList.take (els.length * n)).drop (j * n)).take n) hd hi hX (by rw [<-hfl];exact (g8.drop _).take _) (fun q v hv=>by
     rw [cell_of_cells g5]
     rw [List.getElem?_take] at hv
     split at hv
     ·rw [List.getElem?_drop,List.getElem?_take] at hv
      split at hv
      ·simpa using hv
      ·cases hv
     ·cases hv)
    rw [g1] at hv
    exact ⟨u,by simp only [execOp,ho,hv,Instr.loadAt,Instr.sureAddr,Sem.run_bind,Sem.run_pure,Result.andThen_ok,h1],h2.up⟩
end Go.Ac

namespace Go.Ac
open Go
def AV.one:AV->Bool
 | .val v=>v.oneCell'
 | .str _=>true
 | .sl _ _ _=>true
 | .ip _ _=>true
 | .gp _ _=>true
 | .ge _ _ _=>true
 | .gs _ _ _=>true
 | .fn _ _ _=>true
 | .ifc _ _=>true
 | .mp _=>true
 | _=>false
def AV.sto (x:AV):Bool:=bif x.isAgg then x.flat.all AV.one else x.one
section
variable {β:Nat->Plc} {D I:Nat->Prop} {H:Array Obj} {m:Bool}
theorem R.one {a:AV} {v:Value} (h:R β D I H m a v) (ha:a.one=true):v.oneCell'=true:=by
 cases h<;>first|rfl|(simp [AV.one] at ha;done)|(simpa [AV.one] using ha)
theorem RL.one {as:List AV} {vs:List Value} (h:RL β D I H m as vs) (ha:as.all AV.one=true):cellsOne vs:=by
 induction as generalizing vs with
 | nil=>cases h;intro v hv;simp at hv
 | cons a as ih =>
  cases h with
  | cons h1 h2 =>
   simp only [List.all_cons,Bool.and_eq_true] at ha
   intro v hv
   rcases List.mem_cons.1 hv with rfl|hv
   ·exact h1.one ha.1
   ·exact ih h2 ha.2 v hv
theorem R.cells {a:AV} {v:Value} (h:R β D I H m a v) (ha:a.sto=true):RL β D I H m a.flat v.cells.toList/\cellsOne v.cells.toList:=by
 cases hi:a.isAgg with
 | true =>
  have hf:=AV.flat_isAgg hi
  simp only [AV.sto,hi,cond_true] at ha
  rw [hf] at h
  cases h with
  | agg h=>exact ⟨by simpa [Value.cells] using h,by simpa [Value.cells] using h.one ha⟩
 | false =>
  have hf:=AV.flat_notAgg hi
  simp only [AV.sto,hi,cond_false] at ha
  have ho:=h.one ha
  have hc:v.cells=#[v]:=by cases v<;>simp_all [Value.cells,Value.oneCell']
  rw [hf,hc]
  exact ⟨.cons h (.nil _),by intro u hu;simp at hu;subst hu;exact ho⟩
end
mutual
def AV.clo:AV->Bool
 | .gp _ _|.ge _ _ _|.gs _ _ _|.mp _=>false
 | .agg cs|.tup cs=>cloL cs
 | .fn _ xs ys=>cloL xs && cloL ys
 | .ifc _ x=>x.clo
 | _=>true
def cloL:List AV->Bool
 | []=>true
 | a::l=>a.clo && cloL l
end
section
variable {β:Nat->Plc} {D I:Nat->Prop} {H:Array Obj}
mutual
theorem R.clo:∀ {m a v},R β D I H m a v->a.clo=true->R β D I H false a v
 | _,_,_,.top m v,_=>.top _ v
 | _,_,_,.val m v,_=>.val _ v
 | _,_,_,.str m l,_=>.str _ l
 | _,_,_,.agg h,e=>.agg (RL.clo h (by simpa [AV.clo] using e))
 | _,_,_,.tup h,e=>.tup (RL.clo h (by simpa [AV.clo] using e))
 | _,_,_,.sl vs h1 h2 h3 h4 h4' h5 h6 h7 h8 h9,_=>.sl vs h1 h2 h3 h4 h4' h5 h6 h7 h8 h9
 | _,_,_,.sl0,_=>.sl0
 | _,_,_,.ip vs h1 h3 h4 h5 h6,_=>.ip vs h1 h3 h4 h5 h6
 | _,_,_,.gp h,e=>by simp [AV.clo] at e
 | _,_,_,.ge h,e=>by simp [AV.clo] at e
 | _,_,_,.gs h _ _ _,e=>by simp [AV.clo] at e
 | _,_,_,.fn h1 h2,e=>.fn (RL.clo h1 (by simp [AV.clo] at e;exact e.1)) (RL.clo h2 (by simp [AV.clo] at e;exact e.2))
 | _,_,_,.ifc h,e=>.ifc (R.clo h (by simpa [AV.clo] using e))
 | _,_,_,.mp h,e=>by simp [AV.clo] at e
theorem RL.clo:∀ {m as vs},RL β D I H m as vs->cloL as=true->RL β D I H false as vs
 | _,_,_,.nil m,_=>.nil _
 | _,_,_,.cons h1 h2,e=>.cons (R.clo h1 (by simp [cloL] at e;exact e.1)) (RL.clo h2 (by simp [cloL] at e;exact e.2))
end
end
def setAll {α:Type}:List α->Nat->List α->List α
 | l,_,[]=>l
 | l,p,v::vs=>setAll (l.set p v) (p+1) vs
theorem setAll_length {α:Type}:∀ (vs l:List α) (p:Nat),(setAll l p vs).length=l.length
 | [],_,_=>rfl
 | v::vs,l,p=>by simp [setAll,setAll_length vs]
theorem RL.setAll {β:Nat->Plc} {D I:Nat->Prop} {H:Array Obj} {m:Bool}:∀ {as:List AV} {us:List Value} (p:Nat) {bs:List AV} {vs:List Value},RL β D I H m bs vs->RL β D I H m as us →
 RL β D I H m (setAll bs p as) (setAll vs p us)
 | [],us,p,bs,vs,h,k=>by cases k;exact h
 | a::as,_,p,bs,vs,h,k=>by
  cases k with
  | cons k1 k2=>exact RL.setAll (p+1) (h.set p k1) k2
def fillA (place:Nat->Option (Nat×Nat)) (cells:List AV):List (Nat×AV)->Option (List AV)
 | []=>some cells
 | (i,X)::rest =>
  match place i with
  | none=>none
  | some (off,size)=>if X.sto=true/\X.flat.length=size/\off+size<=cells.length then fillA place (setAll cells off X.flat) rest else none
theorem foldl_setAll:∀ (vs:List Value) (j off:Nat) (cells:Array Value),
 ((vs.zipIdx j).foldl (fun cs (c,q)=>cs.setIfInBounds (off+q) c) cells).toList=setAll cells.toList (off+j) vs
 | [],_,_,_=>rfl
 | v::vs,j,off,cells=>by
  simp only [List.zipIdx_cons,List.foldl_cons,setAll]
  rw [foldl_setAll vs (j+1) off]
  simp [Nat.add_assoc]
theorem fill_run {β:Nat->Plc} {D I:Nat->Prop} {H:Array Obj} {m:Bool} {place:Nat->Option (Nat×Nat)} (f:Operand->Value):∀ (ps:List (Nat×Operand)) (xs:List (Nat×AV)) (cells:List AV) (arr:Array Value) (cs:List AV),
 RL β D I H m cells arr.toList->cellsOne arr.toList->xs.length=ps.length->(∀ (q:Nat) (p:Nat×Operand) (x:Nat×AV),ps[q]?=some p->xs[q]?=some x->x.1=p.1/\R β D I H m x.2 (f p.2))->fillA place cells xs=some cs →
 ∃ arr',Instr.fill place arr (ps.map fun p=>(p.1,f p.2))=some arr'/\RL β D I H m cs arr'.toList/\cellsOne arr'.toList:=by
 intro ps
 induction ps with
 | nil =>
  intro xs cells arr cs hR h1 hl hx hf
  have:xs=[]:=List.eq_nil_of_length_eq_zero (by simpa using hl)
  subst this
  simp only [fillA,Option.some.injEq] at hf
  subst hf
  exact ⟨arr,rfl,hR,h1⟩
 | cons p ps ih =>
  intro xs cells arr cs hR h1 hl hx hf
  match xs,hl with
  | x::xs,hl =>
   obtain ⟨i,X⟩:=x
   obtain ⟨e1,e2⟩:=hx 0 p (i,X) rfl rfl
   simp only at e1 e2
   subst e1
   simp only [fillA] at hf
   simp only [List.map_cons,Instr.fill]
   cases hp:place p.1 with
   | none=>simp [hp] at hf
   | some os =>
    obtain ⟨off,size⟩:=os
    simp only [hp] at hf ⊢
    split at hf
    ·rename_i hc
     obtain ⟨c1,c2,c3⟩:=hc
     obtain ⟨r1,r2⟩:=e2.cells c1
     have hlen:(f p.2).cells.size=size:=by have:=r1.length;simp at this;omega
     have hlen2:cells.length=arr.size:=by simpa using hR.length
     rw [if_neg (by simp;omega)]
     have hfold:((f p.2).cells.zipIdx.foldl (fun cs (c,j)=>cs.setIfInBounds (off+j) c) arr).toList=setAll arr.toList off (f p.2).cells.toList:=by
      have:=foldl_setAll (f p.2).cells.toList 0 off arr
      rw [<-Array.foldl_toList]
      simpa using this
     refine ih xs _ _ cs ?_ ?_ (by simpa using hl) (fun q p x hq hx'=>hx (q+1) p x hq hx') hf
     ·rw [hfold];exact RL.setAll off hR r1
     ·rw [hfold]
      intro v hv
      have:∀ (us l:List Value) (q:Nat),v ∈ setAll l q us->v ∈ l\/v ∈ us:=by
       intro us
       induction us with
       | nil=>intro l q h;exact .inl h
       | cons u us ih2 =>
        intro l q h
        rcases ih2 _ _ h with h|h
        ·rcases List.mem_or_eq_of_mem_set h with h|h
         ·exact .inl h
         ·exact .inr (by simp [h])
        ·exact .inr (by simp [h])
      rcases this _ _ _ hv with h|h
      ·exact h1 v h
      ·exact r2 v h
    ·cases hf
def zc:Value->AV
 | .string s=>.str s.data.toList
 | u=>.val u
def zeroA:Value->AV
 | .agg cs=>.agg (cs.toList.map zc)
 | u=>zc u
section
variable {β:Nat->Plc} {D I:Nat->Prop} {H:Array Obj} {m:Bool}
theorem R_zc (z:Value):R β D I H m (zc z) z:=by
 cases z<;>first|exact .val _ _|(simp only [zc];exact .str _ _)
theorem RL_zc:∀ (vs:List Value),RL β D I H m (vs.map zc) vs
 | []=>.nil _
 | v::vs=>.cons (R_zc v) (RL_zc vs)
theorem R_zeroA (z:Value):R β D I H m (zeroA z) z:=by
 cases z
 case agg cs =>
  have h:=R.agg (RL_zc (β:=β) (D:=D) (I:=I) (H:=H) (m:=m) cs.toList)
  simpa [zeroA] using h
 all_goals (unfold zeroA;exact R_zc _)
end
def avals (t:Nat->AV) (ps:List (Nat×Operand)):List (Nat×AV):=ps.map fun p=>(p.1,evA t p.2)
def arts (t:Nat->AV) (ps:List (Nat×Operand)):List (Operand×AV):=ps.map fun p=>(p.2,evA t p.2)
theorem ok_build {P:Program} {o:Oper} {t:Nat->AV} {T:TypeId} {ps:Array (Nat×Operand)} {i:TypeInfo} {fs:Array Field} {z:Array Value} {places:List (Nat×Nat)} {cs:List AV}
 (ho:o.op=.build T ps) (hi:P.info? T=some i) (hT:P.underlying T=some (.struct fs)) (hz:i.zero=some (.agg z)) (hz1:z.toList.all Value.oneCell'=true)
 (hp:fs.toList.mapM (fun f=>(P.info? f.type).map fun i=>(f.offset,i.size))=some places)
 (hf:fillA (places[·]?) (z.toList.map zc) (avals t ps.toList)=some cs) :
 LocalOK P o {rt:=rds (arts t ps.toList),rh:=[],dst:=o.dst,v:=.agg cs} :=
 localOKn (arts t ps.toList) [] _ (by
  intro p hp
  obtain ⟨q,_,rfl⟩:=List.mem_map.1 hp
  rfl) fun E σ a w β I _ hR _=>by
  obtain ⟨arr',h1,h2,_⟩:=fill_run (β:=β) (D:=dom σ.h) (I:=I) (H:=w.heap) (m:=true) (place:=(places[·]?)) a.eval ps.toList (avals t ps.toList) (z.toList.map zc) z cs (RL_zc _)
   (fun v hv=>by have:=List.all_eq_true.1 hz1 v hv;exact this) (by simp [avals]) (fun q p x hp' hx=>by
    simp only [avals,List.getElem?_map,hp',Option.map_some,Option.some.injEq] at hx
    subst hx
    exact ⟨rfl,hR (p.2,evA t p.2) (List.mem_map.2 ⟨p,List.mem_of_getElem? hp',rfl⟩)⟩) hf
  have hb:P.built T (ps.toList.map fun p=>(p.1,a.eval p.2))=some arr':=by
   simp only [Program.built,hi,hT,hz,hp,Value.cells]
   rw [<-h1];congr 1;funext i;simp
  refine ⟨.agg arr',?_,by have:=R.agg h2;simpa using this⟩
  have:=run_build (P:=P) w T (ps.map fun p=>(p.1,a.eval p.2)) arr' (by simpa using hb)
  simp only [execOp,ho,Sem.run_bind,this,Result.andThen_ok,Sem.run_pure]
theorem ok_buildArr {P:Program} {o:Oper} {t:Nat->AV} {T e:TypeId} {n:Nat} {ps:Array (Nat×Operand)} {i ie:TypeInfo} {z:Array Value} {cs:List AV}
 (ho:o.op=.build T ps) (hi:P.info? T=some i) (hT:P.underlying T=some (.array n e)) (hie:P.info? e=some ie) (hz:i.zero=some (.agg z)) (hz1:z.toList.all Value.oneCell'=true)
 (hf:fillA (fun i=>some (i * ie.size,ie.size)) (z.toList.map zc) (avals t ps.toList)=some cs) :
 LocalOK P o {rt:=rds (arts t ps.toList),rh:=[],dst:=o.dst,v:=.agg cs} :=
 localOKn (arts t ps.toList) [] _ (by
  intro p hp
  obtain ⟨q,_,rfl⟩:=List.mem_map.1 hp
  rfl) fun E σ a w β I _ hR _=>by
  obtain ⟨arr',h1,h2,_⟩:=fill_run (β:=β) (D:=dom σ.h) (I:=I) (H:=w.heap) (m:=true) (place:=fun i=>some (i * ie.size,ie.size)) a.eval ps.toList (avals t ps.toList) (z.toList.map zc) z cs (RL_zc _)
   (fun v hv=>by have:=List.all_eq_true.1 hz1 v hv;exact this) (by simp [avals]) (fun q p x hp' hx=>by
    simp only [avals,List.getElem?_map,hp',Option.map_some,Option.some.injEq] at hx
    subst hx
    exact ⟨rfl,hR (p.2,evA t p.2) (List.mem_map.2 ⟨p,List.mem_of_getElem? hp',rfl⟩)⟩) hf
  have hb:P.built T (ps.toList.map fun p=>(p.1,a.eval p.2))=some arr':=by
   simp only [Program.built,hi,hT,hz,hie,Value.cells]
   rw [<-h1]
  refine ⟨.agg arr',?_,by have:=R.agg h2;simpa using this⟩
  have:=run_build (P:=P) w T (ps.map fun p=>(p.1,a.eval p.2)) arr' (by simpa using hb)
  simp only [execOp,ho,Sem.run_bind,this,Result.andThen_ok,Sem.run_pure]
end Go.Ac

namespace Go.Ac
open Go
structure Adds (w w':World) (o:Obj):Prop where
 heap:w'.heap=w.heap.push o
 os:w'.os=w.os
 tape:w'.tape=w.tape
 output:w'.output=w.output
theorem Adds.old {w w':World} {o:Obj} (h:Adds w w' o) {b:Nat} (hb:b<w.heap.size):w'.heap[b]?=w.heap[b]?:=by
 rw [h.heap,Array.getElem?_push,if_neg (by omega)]
theorem Adds.new {w w':World} {o:Obj} (h:Adds w w' o):w'.heap[w.heap.size]?=some o:=by
 rw [h.heap,Array.getElem?_push,if_pos rfl]
theorem Adds.size {w w':World} {o:Obj} (h:Adds w w' o):w'.heap.size=w.heap.size+1:=by rw [h.heap];simp
theorem Adds.alloc (w:World) (o:Obj):Adds w (w.alloc o) o:=⟨rfl,rfl,rfl,rfl⟩
theorem Adds.drewAlloc (w:World) (o:Obj):Adds w (w.drew.alloc o) o:=⟨rfl,rfl,rfl,rfl⟩
def bset (β:Nat->Plc) (k:Nat) (p:Plc):Nat->Plc:=fun i=>if i=k then p else β i
def hput (h:Nat->Option GE) (k:Nat) (g:Option GE):Nat->Option GE:=fun i=>if i=k then g else h i
theorem bset_same (β:Nat->Plc) (k:Nat) (p:Plc):bset β k p k=p:=by simp [bset]
theorem bset_ne (β:Nat->Plc) {k i:Nat} (p:Plc) (h:i ≠ k):bset β k p i=β i:=by simp [bset,h]
theorem hput_same (h:Nat->Option GE) (k:Nat) (g:Option GE):hput h k g k=g:=by simp [hput]
theorem hput_ne (h:Nat->Option GE) {k i:Nat} (g:Option GE) (e:i ≠ k):hput h k g i=h i:=by simp [hput,e]
theorem GEok.keep {β β':Nat->Plc} {D D' I I':Nat->Prop} {H H':Array Obj} {k:Nat} {g:GE} (K:Keep β β' D D' I I' H H') (hb:β' k=β k)
 (hH:Backed (β k) g->H'[(β k).b]?=H[(β k).b]?) (hI:Backed (β k) g->(I' (β k).b ↔ I (β k).b)) (h:GEok β D I H k g):GEok β' D' I' H' k g:=by
 cases g with
 | box el st =>
  obtain ⟨vs,T,h1,h2,h3,h4,h5,h6⟩:=h
  have hi:=hI trivial
  refine ⟨vs,T,by rw [hb];exact h1,by rw [hb,hH trivial];exact h2,h3.keep K,h4,fun e=>by rw [hb];exact hi.2 (h5 e),fun e=>by rw [hb];exact fun hx=>h6 e (hi.1 hx)⟩
 | arr e n els st =>
  obtain ⟨h1,h2,h3,h4⟩:=h
  refine ⟨by rw [hb];exact h1,h2,h3,?_⟩
  rcases h4 with ⟨h4,h5⟩|⟨h4,vs,h5,h6,h7,h8,h9,h10,h11⟩
  ·exact .inl ⟨by rw [hb];exact h4,h5⟩
  ·have hi:=hI h4
   exact .inr ⟨by rw [hb];exact h4,vs,by rw [hb,hH h4];exact h5,by rw [hb];exact h6,by rw [hb];exact h7,h8.keep K,h9,fun e=>by rw [hb];exact hi.2 (h10 e),fun e=>by rw [hb];exact fun hx=>h11 e (hi.1 hx)⟩
 | map es st =>
  obtain ⟨ms,c,h1,h2,h3,h4,h5⟩:=h
  have hi:=hI trivial
  exact ⟨ms,c,by rw [hb,hH trivial];exact h1,h2.keep K,h3.keep K,fun e=>by rw [hb];exact hi.2 (h4 e),fun e=>by rw [hb];exact fun hx=>h5 e (hi.1 hx)⟩
 | iter s pos =>
  have hi:=hI trivial
  exact ⟨by rw [hb,hH trivial];exact h.1,by rw [hb];exact fun hx=>h.2 (hi.1 hx)⟩
 | dead=>trivial
theorem GEok.lt {β:Nat->Plc} {D I:Nat->Prop} {H:Array Obj} {k:Nat} {g:GE} (h:GEok β D I H k g) (hb:Backed (β k) g):(β k).b<H.size:=by
 have key:∀ o,H[(β k).b]?=some o->(β k).b<H.size:=fun o ho=>(Array.getElem?_eq_some_iff.1 ho).1
 cases g with
 | box el st=>obtain ⟨vs,T,_,h2,_⟩:=h;exact key _ h2
 | arr e n els st =>
  obtain ⟨_,_,_,h4⟩:=h
  rcases h4 with ⟨h4,_⟩|⟨_,vs,h5,_⟩
  ·exact absurd h4 hb
  ·exact key _ h5
 | map es st=>obtain ⟨_,_,h2,_⟩:=h;exact key _ h2
 | iter s pos=>exact key _ h.1
 | dead=>exact hb.elim
theorem RepAt.create {E:Env} {σ:SS} {a:Act} {w w':World} {β:Nat->Plc} {I:Nat->Prop} {o:Obj} (r:RepAt E σ a w β I) {k n z:Nat} {g:GE} {dst:Option Nat} {X:AV} {v:Value}
 (hk:σ.h k=none) (ha:Adds w w' o) (hd:∀ d,dst=some d->d<E.N)
 (hg:Keep β (bset β k ⟨w.heap.size,n,z⟩) (dom σ.h) (dom (hput σ.h k (some g))) I I w.heap w'.heap->¬ I w.heap.size->GEok (bset β k ⟨w.heap.size,n,z⟩) (dom (hput σ.h k (some g))) I w'.heap k g)
 (hv:Keep β (bset β k ⟨w.heap.size,n,z⟩) (dom σ.h) (dom (hput σ.h k (some g))) I I w.heap w'.heap->R (bset β k ⟨w.heap.size,n,z⟩) (dom (hput σ.h k (some g))) I w'.heap true X v) :
 RepAt E ⟨tset σ.t dst X,hput σ.h k (some g)⟩ (a.put dst v) w' (bset β k ⟨w.heap.size,n,z⟩) I:=by
 have hne:∀ i,(σ.h i).isSome=true->i ≠ k:=fun i hi e=>by rw [e,hk] at hi;cases hi
 have K:Keep β (bset β k ⟨w.heap.size,n,z⟩) (dom σ.h) (dom (hput σ.h k (some g))) I I w.heap w'.heap:=by
  refine ⟨fun i hi=>?_,fun b hb=>⟨hb,ha.old (r.inv.imm b hb)⟩⟩
  have:=hne i hi
  exact ⟨by simp only [dom,hput_ne _ _ this];exact hi,bset_ne _ _ this⟩
 have hnI:¬ I w.heap.size:=fun h=>by have:=r.inv.imm _ h;omega
 refine r.step hd K (hv K) ⟨?_,?_,?_⟩ ?_
 ·intro i g' hi
  by_cases e:i=k
  ·subst e
   rw [hput_same] at hi
   cases hi
   exact hg K hnI
  ·rw [hput_ne _ _ e] at hi
   have h0:=r.inv.ge i g' hi
   exact h0.keep K (bset_ne _ _ e) (fun hb=>ha.old (h0.lt hb)) (fun _=>Iff.rfl)
 ·intro b hb
  have:=r.inv.imm b hb
  rw [ha.size];omega
 ·intro i i' g1 g2 hne' h1 h2 b1 b2 hb
  by_cases e:i=k
  ·subst e
   have e':i' ≠ i:=fun h=>hne' h.symm
   rw [hput_ne _ _ e'] at h2
   rw [bset_same,bset_ne _ _ e'] at hb
   rw [bset_ne _ _ e'] at b2
   have:=(r.inv.ge i' g2 h2).lt b2
   simp only at hb
   omega
  ·rw [hput_ne _ _ e] at h1
   rw [bset_ne _ _ e] at b1
   by_cases e':i'=k
   ·subst e'
    rw [bset_same,bset_ne _ _ e] at hb
    have:=(r.inv.ge i g1 h1).lt b1
    simp only at hb
    omega
   ·rw [hput_ne _ _ e'] at h2
    rw [bset_ne _ _ e'] at b2
    rw [bset_ne _ _ e,bset_ne _ _ e'] at hb
    exact r.inv.sep i i' g1 g2 hne' h1 h2 b1 b2 hb
 ·obtain ⟨f1,f2,f3,f4,f5,f6,f7,f8,f9⟩:=r.fr
  refine ⟨by rw [ha.size];omega,ha.os.trans f2,ha.tape.trans f3,ha.output.trans f4,fun b hb hB=>(ha.old (by omega)).trans (f5 b hb hB),f6,f7,?_,?_⟩
  ·intro i g' hi b1 hs
   by_cases e:i=k
   ·subst e
    rw [bset_same]
    exact .inl f1
   ·rw [hput_ne _ _ e] at hi
    rw [bset_ne _ _ e] at b1 ⊢
    exact f8 i g' hi b1 hs
  ·exact pin_keep K f9
theorem hset_one (h:Nat->Option GE) (k:Nat) (g:Option GE):hset h [(k,g)]=hput h k g:=rfl
theorem ok_box {P:Program} {o:Oper} {t:Nat->AV} {T:TypeId} {x:Operand} {X:AV} {d:Nat} (ho:o.op=.box T x) (hx:evA t x=X) (hs:X.sto=true) :
 LocalOK P o {rt:=rds [(x,X)],rh:=[(d,none)],dst:=o.dst,v:=.gp d 0,wh:=[(d,some (.box X .own))]}:=by
 intro E σ a w K Q hN hr ⟨β,I,r⟩ hk
 have hX:=R_ev r (ev_reads hx (fun p hp=>hr.1 p (by simp [rds,hp])))
 have hd0:=hr.2 (d,none) (by simp)
 obtain ⟨c1,c2⟩:=hX.cells hs
 unfold Oper.wp
 have hrun:(execOp a.eval o).run P w=.ok (.value (.pointer (some ⟨w.heap.size,0,none⟩))) (w.alloc (.cells (a.eval x).cells T)):=by
  simp only [execOp,ho,Instr.box,newVar,newRow,Sem.run_bind,run_newObj_alloc,Result.andThen_ok,Sem.run_pure]
 rw [hrun,Oper.upon_value]
 refine hk _ _ ⟨bset β d ⟨w.heap.size,1,0⟩,I,?_⟩
 refine r.create (n:=1) (z:=0) hd0 (Adds.alloc w _) hN (fun K hI=>?_) (fun K=>?_)
 ·refine ⟨(a.eval x).cells,T,by rw [bset_same],?_,?_,c2,(fun e=>by cases e),(fun _=>by rw [bset_same];exact hI)⟩
  ·rw [bset_same];exact (Adds.alloc w _).new
  ·exact c1.keep K
 ·have hD:dom (hput σ.h d (some (.box X .own))) d:=by simp only [dom,hput_same,Option.isSome_some]
  have h1:=R.gp (β:=bset β d ⟨w.heap.size,1,0⟩) (I:=I) (H:=(w.alloc (.cells (a.eval x).cells T)).heap) (c:=0) hD
  rw [bset_same] at h1;exact h1
theorem ok_alloc {P:Program} {o:Oper} {T:TypeId} {i:TypeInfo} {z:Value} {d:Nat} (ho:o.op=.alloc T) (hi:P.info? T=some i) (hz:i.zero=some z) (hs:(zeroA z).sto=true) :
 LocalOK P o {rt:=[],rh:=[(d,none)],dst:=o.dst,v:=.gp d 0,wh:=[(d,some (.box (zeroA z) .own))]}:=by
 intro E σ a w K Q hN hr ⟨β,I,r⟩ hk
 have hd0:=hr.2 (d,none) (by simp)
 obtain ⟨c1,c2⟩:=(R_zeroA (β:=β) (D:=dom σ.h) (I:=I) (H:=w.heap) (m:=true) z).cells hs
 unfold Oper.wp
 have hrun:(execOp a.eval o).run P w=.ok (.value (.pointer (some ⟨w.heap.size,0,none⟩))) (w.alloc (.cells z.cells T)):=by
  simp only [execOp,ho,Instr.alloc,zeroValue,typeInfo,hi,hz,newVar,newRow,Sem.run_bind,run_program,run_newObj_alloc,Result.andThen_ok,Sem.run_pure]
 rw [hrun,Oper.upon_value]
 refine hk _ _ ⟨bset β d ⟨w.heap.size,1,0⟩,I,?_⟩
 refine r.create (n:=1) (z:=0) hd0 (Adds.alloc w _) hN (fun K hI=>?_) (fun K=>?_)
 ·refine ⟨z.cells,T,by rw [bset_same],?_,?_,c2,(fun e=>by cases e),(fun _=>by rw [bset_same];exact hI)⟩
  ·rw [bset_same];exact (Adds.alloc w _).new
  ·exact c1.keep K
 ·have hD:dom (hput σ.h d (some (.box (zeroA z) .own))) d:=by simp only [dom,hput_same,Option.isSome_some]
  have h1:=R.gp (β:=bset β d ⟨w.heap.size,1,0⟩) (I:=I) (H:=(w.alloc (.cells z.cells T)).heap) (c:=0) hD
  rw [bset_same] at h1;exact h1
end Go.Ac

namespace Go.Ac
open Go
theorem setAll_eq {α:Type}:∀ (us l:List α) (p:Nat),p+us.length<=l.length->setAll l p us=l.take p++us++l.drop (p+us.length)
 | [],l,p,_=>by simp [setAll]
 | u::us,l,p,h=>by
  have h1:p<l.length:=by simp at h;omega
  rw [setAll,setAll_eq us (l.set p u) (p+1) (by simp at h ⊢;omega)]
  have e1:(l.set p u).take (p+1)=l.take p++[u]:=by
   rw [List.take_set,List.take_succ_eq_append_getElem h1]
   rw [List.set_append]
   have:(l.take p).length=p:=by simp;omega
   simp [this]
  have e2:(l.set p u).drop (p+1+us.length)=l.drop (p+(u::us).length):=by
   rw [List.drop_set_of_lt (by omega)]
   congr 1
   simp;omega
  rw [e1,e2]
  simp
theorem RL_of_get {β:Nat->Plc} {D I:Nat->Prop} {H:Array Obj} {m:Bool}:∀ (as:List AV) (vs:List Value),as.length=vs.length →
 (∀ (i:Nat) a v,as[i]?=some a->vs[i]?=some v->R β D I H m a v)->RL β D I H m as vs
 | [],[],_,_=>.nil _
 | a::as,v::vs,h,k=>.cons (k 0 a v rfl rfl) (RL_of_get as vs (by simpa using h) (fun i a v ha hv=>k (i+1) a v ha hv))
def fullParts (n:Nat) (xs:List (Nat×AV)) (j:Nat):Bool :=
 match xs with
 | []=>true
 | (i,X)::rest=>decide (i=j) && X.sto && decide (X.flat.length=n) && fullParts n rest (j+1)
theorem fullParts_fill {n:Nat}:∀ (xs:List (Nat×AV)) (j:Nat) (pre zs:List AV),fullParts n xs j=true->pre.length=j * n->zs.length=xs.length * n →
 fillA (fun i=>some (i * n,n)) (pre++zs) xs=some (pre++flats (xs.map (·.2)))
 | [],j,pre,zs,_,_,h=>by
  have:zs=[]:=List.eq_nil_of_length_eq_zero (by simpa using h)
  simp [fillA,flats,this]
 | (i,X)::xs,j,pre,zs,h,hp,hz=>by
  simp only [fullParts,Bool.and_eq_true,decide_eq_true_eq] at h
  obtain ⟨⟨⟨rfl,h2⟩,h3⟩,h4⟩:=h
  have hz':zs.length=n+xs.length * n:=by simpa [Nat.add_mul,Nat.add_comm] using hz
  simp only [fillA]
  rw [if_pos ⟨h2,h3,by simp;omega⟩,<-hp,setAll_eq _ _ _ (by simp;omega)]
  have e1:(pre++zs).take pre.length=pre:=by simp
  have e2:(pre++zs).drop (pre.length+X.flat.length)=zs.drop n:=by rw [<-List.drop_drop,List.drop_left,h3]
  rw [e1,e2]
  have:=fullParts_fill xs (i+1) (pre++X.flat) (zs.drop n) h4 (by simp [hp,h3,Nat.add_mul]) (by simp;omega)
  rw [hp] at *
  rw [this]
  simp [flats]
theorem fullParts_spec {n:Nat}:∀ (xs:List (Nat×AV)) (j:Nat),fullParts n xs j=true->∀ x ∈ xs,x.2.sto=true/\x.2.flat.length=n
 | [],_,_=>by simp
 | (i,X)::xs,j,h=>by
  simp only [fullParts,Bool.and_eq_true,decide_eq_true_eq] at h
  obtain ⟨⟨⟨_,h2⟩,h3⟩,h4⟩:=h
  intro x hx
  rcases List.mem_cons.1 hx with rfl|hx
  ·exact ⟨h2,h3⟩
  ·exact fullParts_spec xs _ h4 x hx
theorem mem_madeCells {z:Array Value} {n:Nat} {v:Value} (hz:0<z.size) (h:v ∈ (madeCells z n).toList):v ∈ z.toList:=by
 simp only [madeCells,Array.toList_map,List.mem_map] at h
 obtain ⟨j,_,rfl⟩:=h
 have hlt:=Nat.mod_lt j hz
 rw [getElem!_pos z _ hlt]
 simp
theorem cloL_flat:∀ {X:AV},X.clo=true->cloL X.flat=true:=by
 intro X h
 cases X<;>simp_all [AV.flat,AV.clo,cloL]
theorem ok_buildSlice {P:Program} {o:Oper} {t:Nat->AV} {T e:TypeId} {ps:Array (Nat×Operand)} {len n:Nat} {i:TypeInfo} {z:Value} {d:Nat} {els:List AV}
 (ho:o.op=.buildSlice T len ps) (hT:P.underlying T=some (.slice e)) (hi:P.info? e=some i) (hn:i.size=n) (hn0:0<n) (hz:i.zero=some z) (hzs:z.cells.size=n) (hz1:z.cells.toList.all Value.oneCell'=true)
 (hps:ps.size=len) (hle:len * n<=16777216) (hf:fullParts n (avals t ps.toList) 0=true) (hels:els=(avals t ps.toList).map (·.2)) :
 LocalOK P o {rt:=rds (arts t ps.toList),rh:=[(d,none)],dst:=o.dst,v:=.gs d 0 len,wh:=[(d,some (.arr e n els .own))]}:=by
 intro E σ a w K Q hN hr ⟨β,I,r⟩ hk
 have hR:∀ p ∈ arts t ps.toList,R β (dom σ.h) I w.heap true p.2 (a.eval p.1):=fun p hp=>by
  obtain ⟨q,hq,rfl⟩:=List.mem_map.1 hp
  exact R_ev r (ev_reads rfl (fun p' hp'=>hr.1 p' (List.mem_flatMap.2 ⟨_,hp,hp'⟩)))
 have hd0:=hr.2 (d,none) (by simp)
 have hlen:(avals t ps.toList).length=len:=by simp [avals,hps]
 have hza:∀ v ∈ (madeCells z.cells (len * n)).toList,v.oneCell'=true:=fun v hv=>List.all_eq_true.1 hz1 v (mem_madeCells (by omega) hv)
 obtain ⟨arr',h1,h2,h3⟩:=fill_run (β:=β) (D:=dom σ.h) (I:=I) (H:=w.heap) (m:=true) (place:=fun i=>some (i * n,n)) a.eval ps.toList (avals t ps.toList) ((madeCells z.cells (len * n)).toList.map zc) (madeCells z.cells (len * n)) _ (RL_zc _)
  hza (by simp [avals]) (fun q p x hp' hx=>by
   simp only [avals,List.getElem?_map,hp',Option.map_some,Option.some.injEq] at hx
   subst hx
   exact ⟨rfl,hR (p.2,evA t p.2) (List.mem_map.2 ⟨p,List.mem_of_getElem? hp',rfl⟩)⟩) (by
    have:=fullParts_fill (n:=n) (avals t ps.toList) 0 [] ((madeCells z.cells (len * n)).toList.map zc) hf (by simp) (by simp [size_madeCells,hlen])
    simpa using this)
 have hsp:=fullParts_spec _ _ hf
 have hfl:∀ x ∈ els,x.flat.length=n:=fun x hx=>by
  rw [hels] at hx
  obtain ⟨y,hy,rfl⟩:=List.mem_map.1 hx
  exact (hsp y hy).2
 have hel:els.length=len:=by rw [hels];simp [hlen]
 rw [<-hels] at h2
 have hsz:arr'.size=len * n:=by have:=h2.length;rw [flats_length els hfl,hel] at this;simpa using this.symm
 unfold Oper.wp
 have hrun:(execOp a.eval o).run P w=.ok (.value (.slice (some ⟨w.heap.size,0,none⟩) len len)) (w.alloc (.cells arr' e)):=by
  have hbig:¬ len * n > 2 ^ 24:=by omega
  simp only [execOp,ho,Instr.buildSlice,Sem.run_bind,run_underlying hT,Result.andThen_ok,run_sizeOf' hi,hn,hbig,if_false,newRow,Sem.run_pure]
  by_cases hz0:len * n=0
  ·have hm:madeCells z.cells (len * n)=(Array.range (len * n)).map ((#[]:Array Value)[· % 0]!):=by simp [madeCells,hz0]
   rw [if_pos hz0]
   have h1':Instr.fill (fun i=>some (i * n,n)) ((Array.range (len * n)).map fun x=>(#[]:Array Value)[x % (#[]:Array Value).size]!) (ps.toList.map fun p=>(p.1,a.eval p.2))=some arr':=by
    rw [hm] at h1;exact h1
   simp only [pure_bind,Sem.run_bind,Array.toList_map]
   rw [show (List.map (fun x=>(x.fst,a.eval x.snd)) ps.toList)=ps.toList.map fun p=>(p.1,a.eval p.2) from rfl,h1']
   rfl
  ·rw [if_neg hz0]
   have h1':Instr.fill (fun i=>some (i * n,n)) ((Array.range (len * n)).map fun x=>z.cells[x % z.cells.size]!) (ps.toList.map fun p=>(p.1,a.eval p.2))=some arr':=h1
   simp only [zeroValue,typeInfo,Sem.run_bind,run_program,Result.andThen_ok,hi,hz,Sem.run_pure,Array.toList_map]
   rw [show (List.map (fun x=>(x.fst,a.eval x.snd)) ps.toList)=ps.toList.map fun p=>(p.1,a.eval p.2) from rfl,h1']
   rfl
 rw [hrun,Oper.upon_value]
 refine hk _ _ ⟨bset β d ⟨w.heap.size,n,len * n⟩,I,?_⟩
 refine r.create (n:=n) (z:=len * n) hd0 (Adds.alloc w _) hN (fun K hI=>?_) (fun K=>?_)
 ·refine ⟨by rw [bset_same],hn0,hfl,?_⟩
  rw [bset_same]
  by_cases hz0:len * n=0
  ·left
   refine ⟨hz0,List.eq_nil_of_length_eq_zero ?_⟩
   rw [hel]
   rcases Nat.mul_eq_zero.1 hz0 with h|h
   ·exact h
   ·omega
  ·right
   refine ⟨hz0,arr',(Adds.alloc w _).new,hsz,by rw [hel];exact Nat.le_refl _,?_,?_,(fun e=>by cases e),(fun _=>hI)⟩
   ·rw [hel,List.take_of_length_le (by simp [hsz])]
    exact h2.keep K
   ·rw [hel,List.take_of_length_le (by simp [hsz])]
    exact h3
 ·have hD:dom (hput σ.h d (some (.arr e n els .own))) d:=by simp only [dom,hput_same,Option.isSome_some]
  have h63:len<=maxLen:=by
   have:len * 1<=len * n:=Nat.mul_le_mul_left _ hn0
   unfold maxLen;omega
  have h1:=R.gs (β:=bset β d ⟨w.heap.size,n,len * n⟩) (I:=I) (H:=(w.alloc (.cells arr' e)).heap) (i:=0) (len:=len) (cap:=len) (base:=some ⟨w.heap.size,0,none⟩) hD (Nat.le_refl _) h63
   (.inr (by rw [bset_same];exact ⟨by simp,by simp⟩))
  exact h1
end Go.Ac

namespace Go.Ac
open Go
structure Turns (w w':World) (b:Nat):Prop where
 heap:∀ i,i ≠ b->w'.heap[i]?=w.heap[i]?
 size:w'.heap.size=w.heap.size
 os:w'.os=w.os
 tape:w'.tape=w.tape
 output:w'.output=w.output
theorem Turns.setRow (w:World) (b:Nat) (cs:Array Value):Turns w (w.setRow b cs) b :=
 ⟨fun i h=>setRow_other w b i cs h,by simp,rfl,rfl,rfl⟩
theorem RepAt.modify {E:Env} {σ:SS} {a:Act} {w w':World} {β:Nat->Plc} {I:Nat->Prop} (r:RepAt E σ a w β I) {k:Nat} {g g':GE} {dst:Option Nat} {X:AV} {v:Value}
 (hk:σ.h k=some g) (ht:Turns w w' (β k).b) (hd:∀ d,dst=some d->d<E.N) (hI:¬ I (β k).b) (hB:Backed (β k) g) (hBg:Backed (β k) g')
 (hC:∀ x,¬ Compat g x) (hs:g.st ≠ .frz) (hg:Keep β β (dom σ.h) (dom (hput σ.h k (some g'))) I I w.heap w'.heap->GEok β (dom (hput σ.h k (some g'))) I w'.heap k g')
 (hv:Keep β β (dom σ.h) (dom (hput σ.h k (some g'))) I I w.heap w'.heap->R β (dom (hput σ.h k (some g'))) I w'.heap true X v) :
 RepAt E ⟨tset σ.t dst X,hput σ.h k (some g')⟩ (a.put dst v) w' β I:=by
 have K:Keep β β (dom σ.h) (dom (hput σ.h k (some g'))) I I w.heap w'.heap:=by
  refine ⟨fun i hi=>⟨?_,rfl⟩,fun b hb=>⟨hb,ht.heap b (fun e=>hI (e ▸ hb))⟩⟩
  by_cases e:i=k
  ·subst e;simp only [dom,hput_same,Option.isSome_some]
  ·simp only [dom,hput_ne _ _ e];exact hi
 have alone:∀ i g1,i ≠ k->σ.h i=some g1->Backed (β i) g1->(β i).b ≠ (β k).b:=fun i g1 hne hi hb e =>
  hC g1 (r.inv.sep k i g g1 (fun h=>hne h.symm) hk hi hB hb e.symm)
 refine r.step hd K (hv K) ⟨?_,?_,?_⟩ ?_
 ·intro i g1 hi
  by_cases e:i=k
  ·subst e;rw [hput_same] at hi;cases hi;exact hg K
  ·rw [hput_ne _ _ e] at hi
   exact (r.inv.ge i g1 hi).keep K rfl (fun hb=>ht.heap _ (alone i g1 e hi hb)) (fun _=>Iff.rfl)
 ·intro b hb;rw [ht.size];exact r.inv.imm b hb
 ·intro i i' g1 g2 hne h1 h2 b1 b2 hb
  by_cases e:i=k
  ·subst e
   have e':i' ≠ i:=fun h=>hne h.symm
   rw [hput_ne _ _ e'] at h2
   exact absurd hb.symm (alone i' g2 e' h2 b2)
  ·rw [hput_ne _ _ e] at h1
   by_cases e':i'=k
   ·subst e';exact absurd hb (alone i g1 e h1 b1)
   ·rw [hput_ne _ _ e'] at h2
    exact r.inv.sep i i' g1 g2 hne h1 h2 b1 b2 hb
 ·obtain ⟨f1,f2,f3,f4,f5,f6,f7,f8,f9⟩:=r.fr
  refine ⟨by rw [ht.size];exact f1,ht.os.trans f2,ht.tape.trans f3,ht.output.trans f4,fun b hb hB'=>?_,f6,f7,?_,pin_keep K f9⟩
  ·refine (ht.heap b (fun e=>?_)).trans (f5 b hb hB')
   subst e
   rcases f8 k g hk hB hs with h|h
   ·omega
   ·exact hB' h
  ·intro i g1 hi b1 hs1
   by_cases e:i=k
   ·subst e;exact f8 i g hk hB hs
   ·rw [hput_ne _ _ e] at hi;exact f8 i g1 hi b1 hs1
def stV (el:AV) (c:Nat) (X:AV):AV :=
 if c=0/\X.flat.length=el.flat.length then X else .agg (setAll el.flat c X.flat)
theorem setAll_all {α:Type} (us l:List α) (h:us.length=l.length):setAll l 0 us=us:=by
 rw [setAll_eq us l 0 (by omega)];simp [h]
theorem stV_flat (el:AV) (c:Nat) (X:AV):(stV el c X).flat=setAll el.flat c X.flat:=by
 unfold stV
 split
 ·rename_i h;rw [h.1,setAll_all _ _ h.2]
 ·rfl
theorem setAll_list (us l:List Value) (p:Nat) (h:p+us.length<=l.length):(l.take p++us++l.drop (p+us.length))=setAll l p us:=(setAll_eq us l p h).symm
theorem mem_setAll {α:Type}:∀ (us l:List α) (q:Nat) (v:α),v ∈ setAll l q us->v ∈ l\/v ∈ us
 | [],_,_,_,h=>.inl h
 | u::us,l,q,v,h=>by
  rcases mem_setAll us _ _ v h with h|h
  ·rcases List.mem_or_eq_of_mem_set h with h|h
   ·exact .inl h
   ·exact .inr (by simp [h])
  ·exact .inr (by simp [h])
theorem run_storeVar' {P:Program} {w:World} {T U:TypeId} {i:TypeInfo} {b p:Nat} {arr:Array Value} {v:Value} (hi:P.info? T=some i) (hv:v.cells.size=i.size)
 (hb:w.heap[b]?=some (.cells arr U (0,0))) (hle:p+v.cells.size<=arr.size) (h1:cellsOne v.cells.toList) :
 (storeVar T ⟨b,p,none⟩ v).run P w=.ok () (w.setRow b (setAll arr.toList p v.cells.toList).toArray):=by
 have:=run_storeCells_at P b p U v.cells.toList 0 arr w hb (by simpa using hle) h1
 simp only [Nat.add_zero] at this
 rw [setAll_list _ _ _ (by simpa using hle)] at this
 simp only [storeVar,Sem.run_bind,run_sizeOf' hi,Result.andThen_ok,hv,ne_eq,not_true_eq_false,if_false]
 exact this
theorem ok_storeBox {P:Program} {o:Oper} {t:Nat->AV} {T:TypeId} {i:TypeInfo} {x y:Operand} {k c:Nat} {el Y:AV} (ho:o.op=.store T x y) (hd:o.dst=none) (hi:P.info? T=some i)
 (hx:evA t x=.gp k c) (hy:evA t y=Y) (hs:Y.sto=true) (hn:Y.flat.length=i.size) (hle:c+i.size<=el.flat.length) :
 LocalOK P o {rt:=rds [(x,.gp k c),(y,Y)],rh:=[(k,some (.box el .own))],dst:=none,v:=.top,wh:=[(k,some (.box (stV el c Y) .own))]}:=by
 intro E σ a w K Q hN hr ⟨β,I,r⟩ hk
 have hX:=R_ev r (ev_reads hx (fun p hp=>hr.1 p (by simp [rds,hp])))
 have hY:=R_ev r (ev_reads hy (fun p hp=>hr.1 p (by simp [rds,hp])))
 have hg:=hr.2 (k,some (.box el .own)) (by simp)
 obtain ⟨c1,c2⟩:=hY.cells hs
 obtain ⟨vs,U,g1,g2,g3,g4,_,g6⟩:=r.inv.ge k _ hg
 have g3':RL β (dom σ.h) I w.heap true el.flat vs.toList:=g3
 have hsz:(a.eval y).cells.size=i.size:=by have:=c1.length;simp at this;omega
 have hvs:vs.size=el.flat.length:=by have:=g3'.length;simpa using this.symm
 generalize hv:a.eval x=v at hX
 cases hX with
 | gp dk =>
  have hst:=run_storeVar' (P:=P) (w:=w) (p:=c) hi hsz g2 (by omega) c2
  unfold Oper.wp
  have hrun:(execOp a.eval o).run P w=.ok .skip (w.setRow (β k).b (setAll vs.toList c (a.eval y).cells.toList).toArray):=by
   simp only [execOp,ho,hv,Instr.storeAt,Instr.sureAddr,Sem.run_bind,Sem.run_pure,Result.andThen_ok,hst]
  rw [hrun,Oper.upon_skip,hd]
  refine hk _ _ ⟨β,I,?_⟩
  have hnI:=g6 (by simp)
  refine r.modify (dst:=none) (v:=undef) hg (Turns.setRow w _ _) hN hnI trivial trivial (fun x=>by cases x<;>simp [Compat]) (by simp [GE.st]) (fun K=>?_) (fun K=>.top _ _)
  refine ⟨(setAll vs.toList c (a.eval y).cells.toList).toArray,U,g1,setRow_heap w _ _ _ U (0,0) g2,?_,?_,(fun e=>by cases e),fun _=>hnI⟩
  ·rw [stV_flat]
   have:=(RL.setAll c g3' c1).keep K
   simpa using this
  ·intro u hu
   rcases mem_setAll _ _ _ u (by simpa using hu) with h|h
   ·exact g4 u h
   ·exact c2 u h
theorem flats_set {n:Nat}:∀ (l:List AV) (j:Nat) (e X:AV),(∀ x ∈ l,x.flat.length=n)->l[j]?=some e->∀ (c:Nat) (us:List AV),X.flat=setAll e.flat c us->c+us.length<=n →
 flats (l.set j X)=setAll (flats l) (j * n+c) us
 | [],j,e,X,_,he,_,_,_,_=>by simp at he
 | a::l,0,e,X,h,he,c,us,hX,hc=>by
  simp at he;subst he
  have h1:=h a (by simp)
  simp only [List.set_cons_zero,flats,Nat.zero_mul,Nat.zero_add]
  rw [hX,setAll_eq _ _ _ (by omega),setAll_eq _ _ _ (by simp;omega)]
  rw [List.take_append_of_le_length (by omega),List.drop_append_of_le_length (by omega)]
  simp
 | a::l,j+1,e,X,h,he,c,us,hX,hc=>by
  have h1:=h a (by simp)
  simp at he
  have hlt:j<l.length:=(List.getElem?_eq_some_iff.1 he).1
  have ih:=flats_set l j e X (fun x hx=>h x (by simp [hx])) he c us hX hc
  have hfl:=flats_length l (fun x hx=>h x (by simp [hx]))
  have hle:j * n+n<=l.length * n:=by rw [<-Nat.succ_mul];exact Nat.mul_le_mul_right _ hlt
  simp only [List.set_cons_succ,flats]
  rw [ih,setAll_eq _ _ _ (by omega),setAll_eq _ _ _ (by simp;rw [Nat.add_mul];omega)]
  rw [show (j+1) * n+c=a.flat.length+(j * n+c) by rw [Nat.add_mul];omega]
  rw [List.take_append,List.drop_append]
  have e1:a.flat.take (a.flat.length+(j * n+c))=a.flat:=List.take_of_length_le (by omega)
  have e2:a.flat.drop (a.flat.length+(j * n+c)+us.length)=[]:=List.drop_eq_nil_of_le (by omega)
  rw [e1,e2]
  have e3:a.flat.length+(j * n+c) - a.flat.length=j * n+c:=by omega
  have e4:a.flat.length+(j * n+c)+us.length - a.flat.length=j * n+c+us.length:=by omega
  rw [e3,e4]
  simp
theorem ok_storeGe {P:Program} {o:Oper} {t:Nat->AV} {T e:TypeId} {i:TypeInfo} {x y:Operand} {k j c n:Nat} {els:List AV} {el Y:AV} (ho:o.op=.store T x y) (hd:o.dst=none) (hi:P.info? T=some i)
 (hx:evA t x=.ge k j c) (hy:evA t y=Y) (hs:Y.sto=true) (hn:Y.flat.length=i.size) (hel:els[j]?=some el) (hle:c+i.size<=n) :
 LocalOK P o {rt:=rds [(x,.ge k j c),(y,Y)],rh:=[(k,some (.arr e n els .own))],dst:=none,v:=.top,wh:=[(k,some (.arr e n (els.set j (stV el c Y)) .own))]}:=by
 intro E σ a w K Q hN hr ⟨β,I,r⟩ hk
 have hX:=R_ev r (ev_reads hx (fun p hp=>hr.1 p (by simp [rds,hp])))
 have hY:=R_ev r (ev_reads hy (fun p hp=>hr.1 p (by simp [rds,hp])))
 have hg:=hr.2 (k,some (.arr e n els .own)) (by simp)
 obtain ⟨c1,c2⟩:=hY.cells hs
 have hlt:j<els.length:=(List.getElem?_eq_some_iff.1 hel).1
 obtain ⟨g1,g2,g3,g4⟩:=r.inv.ge k _ hg
 rcases g4 with ⟨_,g4⟩|⟨g4,vs,g5,g6,g7,g8,g9,_,g10⟩
 ·subst g4;simp at hlt
 have hsz:(a.eval y).cells.size=i.size:=by have:=c1.length;simp at this;omega
 have hjn:j * n+n<=els.length * n:=by rw [<-Nat.succ_mul];exact Nat.mul_le_mul_right _ hlt
 generalize hv:a.eval x=v at hX
 cases hX with
 | ge dk =>
  rw [g1] at hv
  have hst:=run_storeVar' (P:=P) (w:=w) (p:=j * n+c) hi hsz g5 (by omega) c2
  unfold Oper.wp
  have hrun:(execOp a.eval o).run P w=.ok .skip (w.setRow (β k).b (setAll vs.toList (j * n+c) (a.eval y).cells.toList).toArray):=by
   simp only [execOp,ho,hv,Instr.storeAt,Instr.sureAddr,Sem.run_bind,Sem.run_pure,Result.andThen_ok,hst]
  rw [hrun,Oper.upon_skip,hd]
  refine hk _ _ ⟨β,I,?_⟩
  have hnI:=g10 (by simp)
  have hfle:=g3 el (List.mem_of_getElem? hel)
  have hnew:(stV el c Y).flat.length=n:=by rw [stV_flat,setAll_length];exact hfle
  refine r.modify (dst:=none) (v:=undef) hg (Turns.setRow w _ _) hN hnI g4 g4 (fun x=>by cases x<;>simp [Compat]) (by simp [GE.st]) (fun K=>?_) (fun K=>.top _ _)
  refine ⟨g1,g2,fun x hx=>?_,.inr ⟨g4,_,setRow_heap w _ _ _ e (0,0) g5,by simp [setAll_length,g6],by simpa using g7,?_,?_,(fun e=>by cases e),fun _=>hnI⟩⟩
  ·rcases List.mem_or_eq_of_mem_set hx with h|h
   ·exact g3 x h
   ·subst h;exact hnew
  ·rw [flats_set els j el (stV el c Y) g3 hel c Y.flat (stV_flat _ _ _) (by omega),List.length_set]
   have e1:(setAll vs.toList (j * n+c) (a.eval y).cells.toList).take (els.length * n)=setAll (vs.toList.take (els.length * n)) (j * n+c) (a.eval y).cells.toList:=by
    rw [setAll_eq _ _ _ (by simp;omega),setAll_eq _ _ _ (by simp;omega)]
    rw [List.take_append,List.take_append]
    have:(vs.toList.take (j * n+c)).length=j * n+c:=by simp;omega
    simp only [this,List.length_append,Array.length_toList]
    rw [List.take_take,List.take_of_length_le (l:=(a.eval y).cells.toList) (by simp;omega)]
    rw [Nat.min_eq_right (by omega),List.take_take,Nat.min_eq_left (by omega)]
    congr 1
    rw [List.drop_take]
   have:=(RL.setAll (j * n+c) g8 c1).keep K
   rw [<-e1] at this
   simpa using this
  ·intro u hu
   have hu':u ∈ setAll vs.toList (j * n+c) (a.eval y).cells.toList/\u ∈ (setAll vs.toList (j * n+c) (a.eval y).cells.toList).take (els.length * n):=by
    simp only [List.length_set] at hu
    exact ⟨List.mem_of_mem_take hu,hu⟩
   have e1:(setAll vs.toList (j * n+c) (a.eval y).cells.toList).take (els.length * n)=setAll (vs.toList.take (els.length * n)) (j * n+c) (a.eval y).cells.toList:=by
    rw [setAll_eq _ _ _ (by simp;omega),setAll_eq _ _ _ (by simp;omega)]
    rw [List.take_append,List.take_append]
    have:(vs.toList.take (j * n+c)).length=j * n+c:=by simp;omega
    simp only [this,List.length_append,Array.length_toList]
    rw [List.take_take,List.take_of_length_le (l:=(a.eval y).cells.toList) (by simp;omega)]
    rw [Nat.min_eq_right (by omega),List.take_take,Nat.min_eq_left (by omega)]
    congr 1
    rw [List.drop_take]
   rw [e1] at hu'
   rcases mem_setAll _ _ _ u hu'.2 with h|h
   ·exact g9 u h
   ·exact c2 u h
end Go.Ac

namespace Go.Ac
open Go
theorem flats_rep_get {n:Nat} {X:AV} (hX:X.flat.length=n) (h0:0<n):∀ (l j:Nat),j<l * n->(flats (List.replicate l X))[j]?=X.flat[j % n]?
 | 0,j,h=>by simp at h
 | l+1,j,h=>by
  rw [List.replicate_succ]
  simp only [flats]
  by_cases hj:j<n
  ·rw [List.getElem?_append_left (by omega),Nat.mod_eq_of_lt hj]
  ·rw [List.getElem?_append_right (by omega),hX,flats_rep_get hX h0 l (j - n) (by rw [Nat.add_mul] at h;omega)]
   rw [<-Nat.mod_eq_sub_mod (by omega:j ≥ n)]
theorem cells_zeroA (z:Value) (h1:z.cells.toList.all Value.oneCell'=true):(zeroA z).flat=z.cells.toList.map zc:=by
 cases z<;>first|rfl|(simp [Value.cells,Value.oneCell'] at h1;done)
theorem ok_makeSlice {P:Program} {o:Oper} {t:Nat->AV} {T e:TypeId} {i:TypeInfo} {x y:Operand} {k1 k2:IntKind} {l c:Int} {z:Value} {n d:Nat}
 (ho:o.op=.makeSlice T x y) (hT:P.underlying T=some (.slice e)) (hi:P.info? e=some i) (hn:i.size=n) (hn0:0<n) (hz:i.zero=some z) (hzs:z.cells.size=n) (hz1:z.cells.toList.all Value.oneCell'=true)
 (hx:evA t x=.val (.int k1 l)) (hy:evA t y=.val (.int k2 c)) (h0:0<=l) (hlc:l<=c) (hb:(i.bytes:Int) * c<=281474976710656) (h63:c<=9223372036854775807) :
 LocalOK P o {rt:=rds [(x,.val (.int k1 l)),(y,.val (.int k2 c))],rh:=[(d,none)],dst:=o.dst,v:=.gs d 0 l.toNat,wh:=[(d,some (.arr e n (List.replicate l.toNat (zeroA z)) .own))]}:=by
 intro E σ a w K Q hN hr ⟨β,I,r⟩ hk
 have hX:=(R_ev r (ev_reads hx (fun p hp=>hr.1 p (by simp [rds,hp])))).val_inv
 have hY:=(R_ev r (ev_reads hy (fun p hp=>hr.1 p (by simp [rds,hp])))).val_inv
 have hd0:=hr.2 (d,none) (by simp)
 have hfl:(zeroA z).flat.length=n:=by rw [cells_zeroA z hz1];simpa using hzs
 unfold Oper.wp
 have hrun:(execOp a.eval o).run P w=.ok (.value (.slice (some ⟨w.heap.size,0,none⟩) l.toNat c.toNat)) (w.alloc (.cells (madeCells z.cells (c.toNat * n)) e)):=by
  have:=run_make (P:=P) w T e i z hT hi hz k1 k2 l c h0 hlc hb h63
  rw [hn] at this
  simp only [execOp,ho,hX,hY,Sem.run_bind,this,Result.andThen_ok,Sem.run_pure]
 rw [hrun,Oper.upon_value]
 refine hk _ _ ⟨bset β d ⟨w.heap.size,n,c.toNat * n⟩,I,?_⟩
 have hlen:(List.replicate l.toNat (zeroA z)).length=l.toNat:=by simp
 have hle:l.toNat * n<=c.toNat * n:=Nat.mul_le_mul_right _ (by omega)
 have hall:∀ x ∈ List.replicate l.toNat (zeroA z),x.flat.length=n:=fun x hx=>by rw [List.eq_of_mem_replicate hx];exact hfl
 refine r.create (n:=n) (z:=c.toNat * n) hd0 (Adds.alloc w _) hN (fun K hI=>?_) (fun K=>?_)
 ·refine ⟨by rw [bset_same],hn0,hall,?_⟩
  rw [bset_same]
  by_cases hz0:c.toNat * n=0
  ·left
   refine ⟨hz0,List.eq_nil_of_length_eq_zero ?_⟩
   rw [hlen]
   rcases Nat.mul_eq_zero.1 hz0 with h|h<;>omega
  ·right
   refine ⟨hz0,_,(Adds.alloc w _).new,size_madeCells _ _,by rw [hlen];exact hle,?_,?_,(fun e=>by cases e),(fun _=>hI)⟩
   ·refine RL_of_get _ _ ?_ ?_
    ·rw [flats_length _ hall,hlen,List.length_take,Array.length_toList,size_madeCells,Nat.min_eq_left hle]
    ·intro j a' v ha hv
     rw [List.getElem?_take] at hv
     split at hv
     ·rename_i hj
      rw [hlen] at hj
      rw [flats_rep_get hfl hn0 _ _ hj,cells_zeroA z hz1,List.getElem?_map] at ha
      have hv':z.cells[j % z.cells.size]! = v:=by
       simp only [madeCells,Array.toList_map,List.getElem?_map,Array.toList_range,List.getElem?_range] at hv
       rw [List.getElem?_range (by omega)] at hv
       simpa using hv
      rw [hzs] at hv'
      have hm:=Nat.mod_lt j hn0
      have hg:z.cells.toList[j % n]?=some v:=by
       rw [<-hv',getElem!_pos z.cells _ (by omega),Array.getElem?_toList,Array.getElem?_eq_getElem (by omega)]
      rw [hg] at ha
      simp only [Option.map_some,Option.some.injEq] at ha
      subst ha
      exact R_zc v
     ·cases hv
   ·intro v hv
    exact List.all_eq_true.1 hz1 v (mem_madeCells (by omega) (List.mem_of_mem_take hv))
 ·have hD:dom (hput σ.h d (some (.arr e n (List.replicate l.toNat (zeroA z)) .own))) d:=by simp only [dom,hput_same,Option.isSome_some]
  exact R.gs (β:=bset β d ⟨w.heap.size,n,c.toNat * n⟩) (I:=I) (i:=0) (len:=l.toNat) (cap:=c.toNat) (base:=some ⟨w.heap.size,0,none⟩) hD (by omega) (by unfold maxLen;omega)
   (.inr (by rw [bset_same];exact ⟨by simp,by simp⟩))
def bytesA (l:List UInt8):List AV:=l.map fun b=>.val (.int .u8 b.toNat)
theorem flats_bytesA:∀ l:List UInt8,flats (bytesA l)=bytesA l
 | []=>rfl
 | b::l=>by
  have:=flats_bytesA l
  simp only [bytesA,List.map_cons,flats,AV.flat] at this ⊢
  rw [this];rfl
theorem RL_bytesA {β:Nat->Plc} {D I:Nat->Prop} {H:Array Obj} {m:Bool}:∀ l:List UInt8,RL β D I H m (bytesA l) (l.map fun b=>Value.int .u8 b.toNat)
 | []=>.nil _
 | b::l=>.cons (.val _ _) (RL_bytesA l)
def srcV (h:Nat->Option GE):AV->Option (List AV)
 | .sl _ els _=>some els
 | .str l=>some (bytesA l)
 | .val (.slice none 0 0)=>some []
 | .val (.slice (some _) 0 _)=>some []
 | .gs k i len =>
  match h k with
  | some (.arr _ _ els _)=>if i+len<=els.length then some ((els.drop i).take len) else none
  | _=>none
 | _=>none
def srcN (h:Nat->Option GE) (n:Nat):AV->Prop
 | .sl q _ _=>q=n
 | .str _=>n=1
 | .gs k _ _=>match h k with|some (.arr _ q _ _)=>q=n|_=>False
 | _=>True
def srcH (h:Nat->Option GE):AV->List (Nat×Option GE)
 | .gs k _ _=>[(k,h k)]
 | _=>[]
theorem loadCells_zero {P:Program} {w:World} (a:Addr):(loadCells a 0).run P w=.ok #[] w:=by
 simpa using run_loadCells_list (P:=P) w a [] (by simp)
theorem src_run {P:Program} {E:Env} {σ:SS} {a:Act} {w:World} {β:Nat->Plc} {I:Nat->Prop} (r:RepAt E σ a w β I) {X:AV} {v:Value} {n:Nat} {xs:List AV} (hv:R β (dom σ.h) I w.heap true X v)
 (hs:srcV σ.h X=some xs) (hn:srcN σ.h n X) :
 ∃ vs,(∀ w2:World,(Builtin.lenOf v).run P w2=.ok xs.length w2)/\RL β (dom σ.h) I w.heap true (flats xs) vs/\cellsOne vs/\(∀ x ∈ xs,x.flat.length=n)/\vs.length=xs.length * n ∧
  (∀ w2:World,w2.heap=w.heap->∀ q,q<=xs.length->(Builtin.firstCells n q v).run P w2=.ok (vs.take (q * n)).toArray w2)/\((∃ l,X=.str l)\/∃ base cap,v=.slice base xs.length cap):=by
 have fin:∀ (base:Option Addr) (cap:Nat) (vs:List Value),v=.slice base xs.length cap->RL β (dom σ.h) I w.heap true (flats xs) vs->cellsOne vs->(∀ x ∈ xs,x.flat.length=n) →
  (xs ≠ []->∃ ad,base=some ad/\∀ j u,vs[j]?=some u->w.cell? (ad.add j)=some u) →
  ∃ vs,(∀ w2:World,(Builtin.lenOf v).run P w2=.ok xs.length w2)/\RL β (dom σ.h) I w.heap true (flats xs) vs/\cellsOne vs/\(∀ x ∈ xs,x.flat.length=n)/\vs.length=xs.length * n ∧
  (∀ w2:World,w2.heap=w.heap->∀ q,q<=xs.length->(Builtin.firstCells n q v).run P w2=.ok (vs.take (q * n)).toArray w2)/\((∃ l,X=.str l)\/∃ base cap,v=.slice base xs.length cap):=by
  intro base cap vs h1 h2 h3 h4 h5
  have hl:vs.length=xs.length * n:=by rw [<-h2.length,flats_length xs h4]
  refine ⟨vs,fun w2=>by rw [h1];simp [Builtin.lenOf],h2,h3,h4,hl,fun w2 hw2 q hq=>?_,.inr ⟨base,cap,h1⟩⟩
  subst h1
  by_cases hx:xs=[]
  ·subst hx
   have hq0:q=0:=by simpa using hq
   subst hq0
   simp at hl
   subst hl
   cases base with
   | none=>simp [Builtin.firstCells]
   | some ad=>simp only [Builtin.firstCells,Nat.zero_mul,loadCells_zero];simp
  ·obtain ⟨ad,rfl,h6⟩:=h5 hx
   have hqn:q * n<=vs.length:=by rw [hl];exact Nat.mul_le_mul_right _ hq
   have hcw:∀ x,w2.cell? x=w.cell? x:=fun x=>by simp [World.cell?,hw2]
   refine run_firstCells_some (P:=P) w2 n q ad _ cap (vs.take (q * n)) (by simp;omega) (fun j u hu=>?_)
   rw [hcw]
   rw [List.getElem?_take] at hu
   split at hu
   ·exact h6 j u hu
   ·cases hu
 unfold srcV at hs
 split at hs
 case h_1 =>
  rename_i n' els rest
  cases hs
  simp only [srcN] at hn
  subst hn
  cases hv with
  | sl0=>exact fin _ _ [] rfl (.nil _) (by intro v hv;simp at hv) (by simp) (by simp)
  | sl vs g1 g2 g3 g4 g4' g5 g6 g7 g8 g9 =>
   rename_i ad cap arr U fz
   refine fin _ _ (vs.take (xs.length * n')) rfl ?_ (fun u hu=>g8 u (List.mem_of_mem_take hu)) g4 (fun _=>⟨ad,rfl,fun j u hu=>?_⟩)
   ·have:=g7.up.take (xs.length * n')
    rw [<-flats_append,flats_take _ _ (fun e he=>by rcases List.mem_append.1 he with he|he;exact g4 e he;exact g4' e he)] at this
    simpa using this
   ·rw [List.getElem?_take] at hu
    split at hu
    ·rw [addr_add' _ _ g2,cell_of_cells g3];exact g9 j u hu
    ·cases hu
 case h_2 =>
  rename_i l
  cases hs
  have hn1:n=1:=hn
  subst hn1
  have hb:(bytesA l).length=l.length:=by simp [bytesA]
  have hv':=hv.str_inv
  subst hv'
  refine ⟨l.map fun b=>Value.int .u8 b.toNat,fun w2=>by simp [Builtin.lenOf,ByteArray.size,hb],by rw [flats_bytesA];exact RL_bytesA l,?_,?_,by simp [bytesA],fun w2 hw2 q hq=>?_,.inl ⟨l,rfl⟩⟩
  ·intro v hv;simp only [List.mem_map] at hv;obtain ⟨b,_,rfl⟩:=hv;rfl
  ·intro y hy;simp only [bytesA,List.mem_map] at hy;obtain ⟨b,_,rfl⟩:=hy;rfl
  ·simp only [Builtin.firstCells,Sem.run_pure,Nat.mul_one]
   congr 1
   apply Array.ext'
   simp [ByteArray.extract,ByteArray.copySlice,List.map_take]
 case h_3 =>
  cases hs
  cases hv
  exact fin none 0 [] rfl (.nil _) (by intro v hv;simp at hv) (by simp) (by simp)
 case h_4 =>
  cases hs
  cases hv
  exact fin _ _ [] rfl (.nil _) (by intro v hv;simp at hv) (by simp) (by simp)
 case h_5 =>
  rename_i k i len
  split at hs
  case h_2=>cases hs
  rename_i e q els st hk
  split at hs
  case isFalse=>cases hs
  rename_i hle
  cases hs
  simp only [srcN,hk] at hn
  subst hn
  obtain ⟨g1,g2,g3,g4⟩:=r.inv.ge k _ hk
  have hlen:((els.drop i).take len).length=len:=by simp;omega
  have hw:∀ x ∈ (els.drop i).take len,x.flat.length=q:=fun x hx=>g3 x (List.mem_of_mem_drop (List.mem_of_mem_take hx))
  cases hv with
  | gs d1 d2 d3 d4 =>
   rename_i cap base
   rcases g4 with ⟨_,g4⟩|⟨g4,vs,g5,g6,g7,g8,g9,_⟩
   ·subst g4
    simp at hle
    obtain ⟨rfl,rfl⟩:=hle
    exact fin base cap [] (by simp) (by simp;exact .nil _) (by intro v hv;simp at hv) (by simp) (by simp)
   ·refine fin base cap ((vs.toList.take (els.length * q)).drop (i * q) |>.take (len * q)) (by rw [hlen]) ?_ ?_ hw ?_
    ·have:=(g8.up.drop (i * q)).take (len * q)
     rwa [flats_drop _ _ g3,flats_take _ _ (fun e he=>g3 e (List.mem_of_mem_drop he))] at this
    ·exact fun u hu=>g9 u (List.mem_of_mem_drop (List.mem_of_mem_take hu))
    ·intro hne
     have hl0:len ≠ 0:=fun h=>hne (List.eq_nil_of_length_eq_zero (by omega))
     rcases d4 with d4|⟨d4,d5⟩
     ·omega
     ·rw [g1] at d4
      refine ⟨_,d4,fun j u hu=>?_⟩
      rw [addr_add,cell_of_cells g5]
      rw [List.getElem?_take] at hu
      split at hu
      ·rw [List.getElem?_drop,List.getElem?_take] at hu
       split at hu
       ·simpa using hu
       ·cases hu
      ·cases hu
 case h_6=>cases hs
end Go.Ac

