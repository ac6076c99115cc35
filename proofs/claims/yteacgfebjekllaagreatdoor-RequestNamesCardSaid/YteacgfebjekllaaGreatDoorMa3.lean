/- What is proved: operations, reckoned on lists. No condition beyond those that each theorem names. -/
import Derived.Test.YteacgfebjekllaaGreatDoorMa2
import Derived.ChangeKeysEq
import Derived.MapKept
import Derived.DeepKeys
import Derived.Laws.StructEq
import Derived.Lib.ConvBytes
import Derived.Laws.IdiomStrings
set_option linter.all false
namespace Go.Ac
open Go
structure AS where
 t:List (Nat×AV)
 h:List (Nat×GE)
def tg:List (Nat×AV)->Nat->AV
 | [],_=>.top
 | (k,v)::l,i=>if k=i then v else tg l i
def ts:List (Nat×AV)->Nat->AV->List (Nat×AV)
 | [],d,v=>[(d,v)]
 | (k,u)::l,d,v=>if d<k then (d,v)::(k,u)::l else if d=k then (d,v)::l else (k,u)::ts l d v
def hg:List (Nat×GE)->Nat->Option GE
 | [],_=>none
 | (k,g)::l,i=>if k=i then some g else hg l i
def hs:List (Nat×GE)->Nat->GE->List (Nat×GE)
 | [],d,g=>[(d,g)]
 | (k,u)::l,d,g=>if d<k then (d,g)::(k,u)::l else if d=k then (d,g)::l else (k,u)::hs l d g
def AS.den (σ:AS):SS:=⟨tg σ.t,hg σ.h⟩
theorem tg_ts (d:Nat) (v:AV):∀ (l:List (Nat×AV)) (i:Nat),tg (ts l d v) i=if i=d then v else tg l i
 | [],i=>by simp only [ts,tg];by_cases e:d=i<;>simp [e,eq_comm]
 | (k,u)::l,i=>by
  simp only [ts]
  split
  ·show (if d=i then v else tg ((k,u)::l) i)=_
   by_cases e:d=i
   ·simp [e]
   ·rw [if_neg e,if_neg (fun h=>e h.symm)]
  ·split
   ·rename_i e0;subst e0
    simp only [tg];by_cases e:d=i
    ·simp [e]
    ·rw [if_neg e,if_neg (fun h=>e h.symm),if_neg e]
   ·rename_i e0
    simp only [tg,tg_ts d v l i]
    by_cases e:k=i
    ·subst e;rw [if_pos rfl,if_neg (fun h=>e0 h.symm),if_pos rfl]
    ·rw [if_neg e,if_neg e]
theorem hg_hs (d:Nat) (v:GE):∀ (l:List (Nat×GE)) (i:Nat),hg (hs l d v) i=if i=d then some v else hg l i
 | [],i=>by simp only [hs,hg];by_cases e:d=i<;>simp [e,eq_comm]
 | (k,u)::l,i=>by
  simp only [hs]
  split
  ·show (if d=i then some v else hg ((k,u)::l) i)=_
   by_cases e:d=i
   ·simp [e]
   ·rw [if_neg e,if_neg (fun h=>e h.symm)]
  ·split
   ·rename_i e0;subst e0
    simp only [hg];by_cases e:d=i
    ·simp [e]
    ·rw [if_neg e,if_neg (fun h=>e h.symm),if_neg e]
   ·rename_i e0
    simp only [hg,hg_hs d v l i]
    by_cases e:k=i
    ·subst e;rw [if_pos rfl,if_neg (fun h=>e0 h.symm),if_pos rfl]
    ·rw [if_neg e,if_neg e]
def evL (σ:AS):Operand->AV
 | .tmp i=>tg σ.t i
 | x=>evC x
theorem evL_den (σ:AS) (x:Operand):evA σ.den.t x=evL σ x:=by cases x<;>rfl
structure Upd where
 dst:Option Nat
 v:AV
 wh:List (Nat×GE):=[]
def tsO (l:List (Nat×AV)):Option Nat->AV->List (Nat×AV)
 | none,_=>l
 | some d,v=>ts l d v
def hsL (l:List (Nat×GE)):List (Nat×GE)->List (Nat×GE)
 | []=>l
 | (k,g)::w=>hsL (hs l k g) w
def AS.up (σ:AS) (u:Upd):AS:=⟨tsO σ.t u.dst u.v,hsL σ.h u.wh⟩
theorem hsL_den:∀ (w l:List (Nat×GE)),hg (hsL l w)=hset (hg l) (w.map fun p=>(p.1,some p.2))
 | [],l=>rfl
 | (k,g)::w,l=>by
  simp only [hsL,List.map_cons,hset]
  rw [hsL_den w (hs l k g)]
  congr 1
  funext i
  exact hg_hs k g l i
theorem up_den (σ:AS) (u:Upd) (f:Eff) (h1:f.dst=u.dst) (h2:f.v=u.v) (h3:f.wh=u.wh.map fun p=>(p.1,some p.2)):(σ.up u).den=σ.den.upd f:=by
 simp only [AS.up,AS.den,SS.upd,h1,h2,h3,hsL_den]
 congr 1
 funext i
 cases u.dst with
 | none=>rfl
 | some d=>exact tg_ts d u.v σ.t i
structure Foot where
 rt:List Nat
 wt:List Nat
 rh:List Nat
 wh:List Nat
def footOf (f:Eff):Foot:=⟨keys f.rt,keys (wT f),keys f.rh,keys f.wh⟩
def touchF (f g:Foot):Bool :=
 f.wt.any (fun x=>g.rt.contains x || g.wt.contains x) || f.rt.any (fun x=>g.wt.contains x) || f.wh.any (fun x=>g.rh.contains x || g.wh.contains x) || f.rh.any (fun x=>g.wh.contains x)
def ordF (A:List (List Nat)):List Foot->Nat->Bool
 | [],_=>true
 | f::fs,i=>((List.range fs.length).all fun q=>!touchF f (fs.getD q ⟨[],[],[],[]⟩) || ((A[i+1+q]?).getD []).contains i) && ordF A fs (i+1)
theorem touch_foot (f g:Eff):touch f g=touchF (footOf f) (footOf g):=rfl
theorem ordOk_foot (A:List (List Nat)):∀ (fs:List Eff) (i:Nat),ordOk A fs i=ordF A (fs.map footOf) i
 | [],_=>rfl
 | f::fs,i=>by
  simp only [ordOk,ordF,List.map_cons,List.length_map,ordOk_foot A fs (i+1)]
  congr 1
  have h:∀ q ∈ List.range fs.length,(!touch f (fs.getD q {}) || ((A[i+1+q]?).getD []).contains i)=(!touchF (footOf f) ((fs.map footOf).getD q ⟨[],[],[],[]⟩) || ((A[i+1+q]?).getD []).contains i):=by
   intro q hq
   have hlt:q<fs.length:=List.mem_range.1 hq
   simp only [List.getD_eq_getElem?_getD,List.getElem?_map,List.getElem?_eq_getElem hlt,Option.map_some,Option.getD_some,touch_foot]
  rw [Bool.eq_iff_iff,List.all_eq_true,List.all_eq_true]
  exact ⟨fun k q hq=>(h q hq) ▸ k q hq,fun k q hq=>(h q hq).symm ▸ k q hq⟩
inductive Out where
 | eff (u:Upd) (f:Foot)
 | req (p:Prop) [inst:Decidable p] (o:Out)
 | ite (b:Bool) (x y:Out)
 | opt (x:Option AV) (k:Option AV->Out)
 | byt (x:Option UInt8) (k:Option UInt8->Out)
 | unb (xs:List AV) (k:Option (List UInt8)->Out)
 | call (f:FuncId) (As:List AV) (rt:List Nat) (dst:Option Nat)
 | fail
def unb:List AV->Option (List UInt8)
 | []=>some []
 | .val (.int .u8 n)::t =>
  match unb t with
  | some l=>if 0<=n/\n<256 then some (UInt8.ofNat n.toNat::l) else none
  | none=>none
 | _=>none
theorem unb_spec:∀ {xs:List AV} {l:List UInt8},unb xs=some l->xs=bytesA l
 | [],l,h=>by cases h;rfl
 | a::t,l,h=>by
  unfold unb at h
  split at h
  ·cases h;rename_i e;cases e
  ·rename_i n t' e
   cases e
   split at h
   ·rename_i l' hl'
    split at h
    ·rename_i hn
     cases h
     have:=unb_spec hl'
     have hn2:((UInt8.ofNat n.toNat).toNat:Int)=n:=by
      rw [UInt8.toNat_ofNat']
      omega
     simp only [bytesA,List.map_cons,hn2]
     rw [this];rfl
    ·cases h
   ·cases h
  ·cases h
def rdN:Operand->List Nat
 | .tmp i=>[i]
 | _=>[]
def dN:Option Nat->List Nat
 | some d=>[d]
 | none=>[]
def oV (xs:List Operand) (rh:List Nat) (dst:Option Nat) (v:AV):Out:=.eff ⟨dst,v,[]⟩ ⟨xs.flatMap rdN,dN dst,rh,[]⟩
def OutOK (P:Program) (W:World) (o:Oper) (σ:AS):Out->Prop
 | .eff u f=>∃ g:Eff,LocalOKW P W o g/\Reads σ.den g/\footOf g=f/\(σ.up u).den=σ.den.upd g/\g.dst=o.dst
 | @Out.req p _ x=>p->OutOK P W o σ x
 | .ite b x y=>(b=true->OutOK P W o σ x)/\(b=false->OutOK P W o σ y)
 | .opt x k=>OutOK P W o σ (k x)
 | .byt x k=>OutOK P W o σ (k x)
 | .unb x k=>OutOK P W o σ (k (unb x))
 | .call f As rt dst=>dst=o.dst/\∃ xs:List (Operand×AV),keys (rds xs)=rt/\(callable P f=true->Enters P o σ.den.t xs f As)
 | .fail=>True
theorem keys_rds:∀ (xs:List (Operand×AV)),keys (rds xs)=(xs.map (·.1)).flatMap rdN
 | []=>rfl
 | (x,X)::xs=>by
  have:=keys_rds xs
  simp only [rds,keys] at this ⊢
  simp only [List.flatMap_cons,List.map_append,List.map_cons,this]
  cases x<;>rfl
theorem reads_rds {σ:AS} {xs:List (Operand×AV)} (h:∀ p ∈ xs,evL σ p.1=p.2):∀ q ∈ rds xs,σ.den.t q.1=q.2:=by
 intro q hq
 obtain ⟨p,hp,hq⟩:=List.mem_flatMap.1 hq
 have:=h p hp
 obtain ⟨x,X⟩:=p
 cases x with
 | tmp i=>simp only [rd,List.mem_singleton] at hq;subst hq;exact this
 | _=>simp [rd] at hq
theorem keys_wT (f:Eff):keys (wT f)=dN f.dst:=by unfold wT;cases f.dst<;>rfl
theorem outOK_v {P:Program} {W:World} {o:Oper} {σ:AS} (xs:List (Operand×AV)) (rh:List (Nat×Option GE)) {v:AV} {ys:List Operand} {rhN:List Nat} (h:LocalOK P o {rt:=rds xs,rh:=rh,dst:=o.dst,v:=v})
 (hx:∀ p ∈ xs,evL σ p.1=p.2) (hh:∀ p ∈ rh,hg σ.h p.1=p.2) (hy:xs.map (·.1)=ys) (hr:keys rh=rhN):OutOK P W o σ (oV ys rhN o.dst v) :=
 ⟨_,h.w,⟨reads_rds hx,hh⟩,by show Foot.mk _ _ _ _=Foot.mk _ _ _ _;rw [keys_rds,keys_wT,hy,hr];rfl,up_den _ _ _ rfl rfl rfl,rfl⟩
end Go.Ac

namespace Go.Ac
open Go
structure Ty where
 ag:Bool:=false
 size:Nat:=0
 bytes:Nat:=0
 z:AV:=.top
 okz:Bool:=false
 el:Option TypeId:=none
 str:Bool:=false
 bl:Bool:=false
 ifc:Bool:=false
 ik:Option IntKind:=none
 fo:List (Nat×Nat):=[]
 ok:Bool:=false
 ar:Option (Nat×TypeId):=none
def tyD (P:Program) (d:TypeDesc) (y:Ty):Ty :=
 match d with
 | .slice e=>{y with el:=some e}
 | .string=>{y with str:=true}
 | .bool=>{y with bl:=true}
 | .interface _=>{y with ifc:=true}
 | .int k=>{y with ik:=some k}
 | .struct fs=>{y with ag:=true,fo:=(fs.toList.mapM fun f=>(P.info? f.type).map fun i=>(f.offset,i.size)).getD []}
 | .array n e=>{y with ag:=true,ar:=some (n,e)}
 | _=>y
def ty (P:Program) (t:TypeId):Ty :=
 match P.underlying t,P.info? t with
 | some d,some i=>tyD P d {size:=i.size,bytes:=i.bytes,z:=(i.zero.map zeroA).getD .top,okz:=(i.zero.map fun z=>decide (z.cells.size=i.size) && z.cells.toList.all Value.oneCell').getD false,ok:=true}
 | _,_=>{}
section
variable {P:Program} {t:TypeId}
theorem ty_ok (h:(ty P t).ok=true):∃ d i,P.underlying t=some d/\P.info? t=some i/\ty P t=tyD P d {size:=i.size,bytes:=i.bytes,z:=(i.zero.map zeroA).getD .top,okz:=(i.zero.map fun z=>decide (z.cells.size=i.size) && z.cells.toList.all Value.oneCell').getD false,ok:=true}:=by
 unfold ty at h ⊢
 cases hd:P.underlying t with
 | none=>rw [hd] at h;cases h
 | some d =>
  cases hi:P.info? t with
  | none=>rw [hd,hi] at h;cases h
  | some i=>exact ⟨d,i,rfl,rfl,rfl⟩
theorem tyD_ag {d:TypeDesc} {y:Ty} (hy:y.ag=false):(tyD P d y).ag=descAgg d:=by cases d<;>first|rfl|exact hy
theorem tyD_size {d:TypeDesc} {y:Ty}:(tyD P d y).size=y.size:=by cases d<;>rfl
theorem tyD_bytes {d:TypeDesc} {y:Ty}:(tyD P d y).bytes=y.bytes:=by cases d<;>rfl
theorem tyD_z {d:TypeDesc} {y:Ty}:(tyD P d y).z=y.z:=by cases d<;>rfl
theorem tyD_okz {d:TypeDesc} {y:Ty}:(tyD P d y).okz=y.okz:=by cases d<;>rfl
theorem ty_el {e:TypeId} (h:(ty P t).el=some e):P.underlying t=some (.slice e):=by
 unfold ty at h
 split at h
 ·rename_i d i hd hi
  cases d<;>simp [tyD] at h
  subst h;exact hd
 ·cases h
theorem ty_ar {n:Nat} {e:TypeId} (h:(ty P t).ar=some (n,e)):P.underlying t=some (.array n e):=by
 unfold ty at h
 split at h
 ·rename_i d i hd hi
  cases d<;>simp [tyD] at h
  obtain ⟨rfl,rfl⟩:=h;exact hd
 ·cases h
theorem ty_str (h:(ty P t).str=true):P.underlying t=some .string:=by
 unfold ty at h
 split at h
 ·rename_i d i hd hi
  cases d<;>simp [tyD] at h
  exact hd
 ·cases h
theorem ty_bl (h:(ty P t).bl=true):P.underlying t=some .bool:=by
 unfold ty at h
 split at h
 ·rename_i d i hd hi
  cases d<;>simp [tyD] at h
  exact hd
 ·cases h
theorem ty_ifc (h:(ty P t).ifc=true):∃ ms,P.underlying t=some (.interface ms):=by
 unfold ty at h
 split at h
 ·rename_i d i hd hi
  cases d<;>simp [tyD] at h
  exact ⟨_,hd⟩
 ·cases h
theorem ty_ik {k:IntKind} (h:(ty P t).ik=some k):P.underlying t=some (.int k):=by
 unfold ty at h
 split at h
 ·rename_i d i hd hi
  cases d<;>simp [tyD] at h
  subst h;exact hd
 ·cases h
theorem ty_fo {f:Nat} {q:Nat×Nat} (h:(ty P t).fo[f]?=some q):∃ fs places,P.underlying t=some (.struct fs)/\(fs.toList.mapM fun f=>(P.info? f.type).map fun i=>(f.offset,i.size))=some places/\(ty P t).fo=places:=by
 unfold ty at h ⊢
 split at h
 ·rename_i d i hd hi
  cases d<;>simp [tyD] at h
  rename_i fs
  cases hp:fs.toList.mapM (fun f=>(P.info? f.type).map fun i=>(f.offset,i.size)) with
  | none=>rw [hp] at h;simp at h
  | some places=>exact ⟨fs,places,hd,hp,by simp [tyD,hp]⟩
 ·simp at h
theorem ty_zero (h:(ty P t).okz=true):∃ i z,P.info? t=some i/\i.zero=some z/\z.cells.size=i.size/\z.cells.toList.all Value.oneCell'=true/\(ty P t).z=zeroA z/\(ty P t).size=i.size/\(ty P t).bytes=i.bytes:=by
 have hok:(ty P t).ok=true:=by
  unfold ty at h ⊢
  split at h
  ·rename_i d i hd hi;cases d<;>rfl
  ·cases h
 obtain ⟨d,i,hd,hi,he⟩:=ty_ok hok
 rw [he,tyD_okz] at h
 cases hz:i.zero with
 | none=>rw [hz] at h;cases h
 | some z =>
  rw [hz] at h
  simp only [Option.map_some,Option.getD_some,Bool.and_eq_true,decide_eq_true_eq] at h
  exact ⟨i,z,hi,hz,h.1,h.2,by rw [he,tyD_z,hz];rfl,by rw [he,tyD_size],by rw [he,tyD_bytes]⟩
end
theorem mapM_get {α β:Type} (f:α->Option β):∀ (l:List α) (r:List β),l.mapM f=some r->∀ (i:Nat) (b:β),r[i]?=some b->∃ a,l[i]?=some a/\f a=some b
 | [],r,h,i,b,hb=>by simp at h;subst h;simp at hb
 | x::l,r,h,i,b,hb=>by
  simp only [List.mapM_cons,Option.bind_eq_bind,Option.pure_def] at h
  cases hx:f x with
  | none=>rw [hx] at h;simp at h
  | some y =>
   cases hl:l.mapM f with
   | none=>rw [hx,hl] at h;simp at h
   | some ys =>
    rw [hx,hl] at h
    simp at h
    subst h
    cases i with
    | zero=>simp at hb;subst hb;exact ⟨x,rfl,hx⟩
    | succ i=>simp at hb;simpa using mapM_get f l ys hl i b hb
def oVo (xs:List Operand) (rh:List Nat) (dst:Option Nat):Option AV->Out
 | some v=>oV xs rh dst v
 | none=>.fail
def oLoadB (T:Ty) (x:Operand) (dst:Option Nat) (k c:Nat):Option GE->Out
 | some (.box el _)=>oVo [x] [k] dst (ldV T.ag T.size el c)
 | _=>.fail
def oLoadE (T:Ty) (x:Operand) (dst:Option Nat) (k c:Nat):Option AV->Out
 | some el=>oVo [x] [k] dst (ldV T.ag T.size el c)
 | none=>.fail
def oLoadA (T:Ty) (x:Operand) (dst:Option Nat) (k i c:Nat):Option GE->Out
 | some (.arr _ _ els _)=>.opt (els[i]?) (oLoadE T x dst k c)
 | _=>.fail
def oLoad (T:Ty) (σ:AS) (x:Operand) (dst:Option Nat):AV->Out
 | .gp k c=>oLoadB T x dst k c (hg σ.h k)
 | .ip el c=>oVo [x] [] dst (ldV T.ag T.size el c)
 | .ge k i c=>oLoadA T x dst k i c (hg σ.h k)
 | _=>.fail
theorem oLoad_ok {P:Program} {W:World} {σ:AS} {o:Oper} {x:Operand} {T:TypeId} (ho:o.op=.load T x) (hT:(ty P T).ok=true):OutOK P W o σ (oLoad (ty P T) σ x o.dst (evL σ x)):=by
 obtain ⟨d,i,hd,hi,he⟩:=ty_ok hT
 have hag:(ty P T).ag=descAgg d:=by rw [he,tyD_ag rfl]
 have hsz:(ty P T).size=i.size:=by rw [he,tyD_size]
 cases hx:evL σ x<;>simp only [oLoad]<;>try trivial
 case ip el c =>
  cases hX:ldV (ty P T).ag (ty P T).size el c with
  | none=>simp only [oVo];trivial
  | some X =>
   rw [hag,hsz] at hX
   exact outOK_v [(x,.ip el c)] [] (ok_loadIp ho hd hi (by rw [evL_den];exact hx) hX) (by simpa using hx) (by simp) rfl rfl
 case gp k c =>
  cases hb:hg σ.h k with
  | none=>simp only [oLoadB];trivial
  | some g =>
   cases g with
   | arr e n els st=>simp only [oLoadB];trivial
   | map es st=>simp only [oLoadB];trivial
   | iter s p=>simp only [oLoadB];trivial
   | dead=>simp only [oLoadB];trivial
   | box el st =>
    simp only [oLoadB]
    cases hX:ldV (ty P T).ag (ty P T).size el c with
    | none=>simp only [oVo];trivial
    | some X =>
     rw [hag,hsz] at hX
     exact outOK_v [(x,.gp k c)] [(k,some (.box el st))] (ok_loadBox ho hd hi (by rw [evL_den];exact hx) hX) (by simpa using hx) (by simpa using hb) rfl rfl
 case ge k j c =>
  cases hb:hg σ.h k with
  | none=>simp only [oLoadA];trivial
  | some g =>
   cases g with
   | box el st=>simp only [oLoadA];trivial
   | map es st=>simp only [oLoadA];trivial
   | iter s p=>simp only [oLoadA];trivial
   | dead=>simp only [oLoadA];trivial
   | arr e n els st =>
    simp only [oLoadA,OutOK]
    cases hel:els[j]? with
    | none=>simp only [oLoadE];trivial
    | some el =>
     simp only [oLoadE]
     cases hX:ldV (ty P T).ag (ty P T).size el c with
     | none=>simp only [oVo];trivial
     | some X =>
      rw [hag,hsz] at hX
      exact outOK_v [(x,.ge k j c)] [(k,some (.arr e n els st))] (ok_loadGe ho hd hi (by rw [evL_den];exact hx) hel hX) (by simpa using hx) (by simpa using hb) rfl rfl
def oFieldAddr (x:Operand) (dst:Option Nat) (X:AV):Option (Nat×Nat)->Out
 | some (off,sz)=>if sz=0 then .fail else oVo [x] [] dst (fieldV off X)
 | none=>.fail
theorem oFieldAddr_ok {P:Program} {W:World} {σ:AS} {o:Oper} {x:Operand} {T:TypeId} {f:Nat} (ho:o.op=.fieldAddr T x f):OutOK P W o σ (oFieldAddr x o.dst (evL σ x) ((ty P T).fo[f]?)):=by
 cases h:(ty P T).fo[f]? with
 | none=>simp only [oFieldAddr];trivial
 | some q =>
  obtain ⟨fs,places,h1,h2,h3⟩:=ty_fo h
  rw [h3] at h
  obtain ⟨fd,h4,h5⟩:=mapM_get _ _ _ h2 f q h
  obtain ⟨off,sz⟩:=q
  simp only [oFieldAddr]
  split
  ·trivial
  ·rename_i hz
   cases hY:fieldV off (evL σ x) with
   | none=>simp only [oVo];trivial
   | some Y =>
    cases hi:P.info? fd.type with
    | none=>rw [hi] at h5;cases h5
    | some i =>
     rw [hi] at h5
     simp only [Option.map_some,Option.some.injEq,Prod.mk.injEq] at h5
     obtain ⟨rfl,rfl⟩:=h5
     exact outOK_v [(x,evL σ x)] [] (ok_fieldAddr ho h1 (by simpa using h4) hi hz (evL_den σ x) hY) (by simp) (by simp) rfl rfl
def oIndexE (x ix:Operand) (dst:Option Nat):Option AV->Out
 | some el=>oV [x,ix] [] dst (.ip el 0)
 | none=>.fail
def oIndexG (e:TypeId) (n:Nat) (x ix:Operand) (dst:Option Nat) (k i0 len:Nat) (j:Int):Option GE->Out
 | some (.arr e' n' els st)=>if e=e'/\n=n' then .req (0<=j/\j<len) (oV [x,ix] [k] dst (.ge k (i0+j.toNat) 0)) else .fail
 | _=>.fail
def oIndexAddr (P:Program) (σ:AS) (x ix:Operand) (dst:Option Nat):Option TypeId->AV->AV->Out
 | some e,.sl n els _,.val (.int _ j)=>if (ty P e).ok=true/\(ty P e).size=n then .req (0<=j) (.opt (els[j.toNat]?) (oIndexE x ix dst)) else .fail
 | some e,.gs k i0 len,.val (.int _ j)=>if (ty P e).ok=true then oIndexG e (ty P e).size x ix dst k i0 len j (hg σ.h k) else .fail
 | _,_,_=>.fail
theorem oIndexAddr_ok {P:Program} {W:World} {σ:AS} {o:Oper} {x ix:Operand} {T:TypeId} (ho:o.op=.indexAddr T x ix):OutOK P W o σ (oIndexAddr P σ x ix o.dst (ty P T).el (evL σ x) (evL σ ix)):=by
 unfold oIndexAddr
 split
 ·rename_i e n els rest k j hel hx hix
  split
  ·rename_i hc
   obtain ⟨d,i,hd,hi,he⟩:=ty_ok hc.1
   have hsz:(ty P e).size=i.size:=by rw [he,tyD_size]
   intro h0
   simp only [OutOK]
   cases hE:els[j.toNat]? with
   | none=>simp only [oIndexE];trivial
   | some el =>
    exact outOK_v [(x,.sl n els rest),(ix,.val (.int k j))] [] (ok_indexAddrSl ho (ty_el hel) hi (by rw [<-hsz,hc.2]) (by rw [evL_den];exact hx) (by rw [evL_den];exact hix) h0 hE) (by simpa using ⟨hx,hix⟩) (by simp) rfl rfl
  ·trivial
 ·rename_i e q i0 len k j hel hx hix
  split
  ·rename_i hc
   obtain ⟨d,i,hd,hi,he⟩:=ty_ok hc
   have hsz:(ty P e).size=i.size:=by rw [he,tyD_size]
   cases hb:hg σ.h q with
   | none=>simp only [oIndexG];trivial
   | some g =>
    cases g with
    | box el st=>simp only [oIndexG];trivial
    | map es st=>simp only [oIndexG];trivial
    | iter s p=>simp only [oIndexG];trivial
    | dead=>simp only [oIndexG];trivial
    | arr e' n' els st =>
     simp only [oIndexG]
     split
     ·rename_i hh
      obtain ⟨rfl,rfl⟩:=hh
      intro h0
      exact outOK_v [(x,.gs q i0 len),(ix,.val (.int k j))] [(q,some (.arr e (ty P e).size els st))] (ok_indexAddrGs ho (ty_el hel) hi hsz.symm (by rw [evL_den];exact hx) (by rw [evL_den];exact hix) h0.1 h0.2) (by simpa using ⟨hx,hix⟩) (by simpa using hb) rfl rfl
     ·trivial
  ·trivial
 ·trivial
def oIndexArr (P:Program) (x ix:Operand) (dst:Option Nat) (n:Nat) (e:TypeId) (X:AV):AV->Out
 | .val (.int _ j)=>if (ty P e).ok=true then .req (0<=j/\j<n) (oVo [x,ix] [] dst (fieldV (j.toNat * (ty P e).size) X)) else .fail
 | _=>.fail
def oIndexAny (P:Program) (σ:AS) (x ix:Operand) (dst:Option Nat) (T:Ty) (X I:AV):Out :=
 match T.ar with
 | some (n,e)=>oIndexArr P x ix dst n e X I
 | none=>oIndexAddr P σ x ix dst T.el X I
theorem oIndexAny_ok {P:Program} {W:World} {σ:AS} {o:Oper} {x ix:Operand} {T:TypeId} (ho:o.op=.indexAddr T x ix):OutOK P W o σ (oIndexAny P σ x ix o.dst (ty P T) (evL σ x) (evL σ ix)):=by
 unfold oIndexAny
 split
 ·rename_i n e har
  unfold oIndexArr
  split
  ·rename_i k j hix
   split
   ·rename_i hc
    obtain ⟨d,i,hd,hi,he⟩:=ty_ok hc
    have hsz:(ty P e).size=i.size:=by rw [he,tyD_size]
    rw [hsz]
    intro h0
    cases hY:fieldV (j.toNat * i.size) (evL σ x) with
    | none=>simp only [oVo];trivial
    | some Y=>exact outOK_v [(x,evL σ x),(ix,.val (.int k j))] [] (ok_indexAddrArr ho (ty_ar har) hi (evL_den σ x) (by rw [evL_den];exact hix) h0.1 h0.2 hY) (by simpa using hix) (by simp) rfl rfl
   ·trivial
  ·trivial
 ·exact oIndexAddr_ok ho
end Go.Ac

namespace Go.Ac
open Go
theorem outOK_w {P:Program} {W:World} {o:Oper} {σ:AS} (xs:List (Operand×AV)) (rh:List (Nat×Option GE)) (wh:List (Nat×GE)) {dst:Option Nat} {v:AV} {ys:List Operand} {rhN whN:List Nat}
 (h:LocalOK P o {rt:=rds xs,rh:=rh,dst:=dst,v:=v,wh:=wh.map fun p=>(p.1,some p.2)}) (hd:dst=o.dst)
 (hx:∀ p ∈ xs,evL σ p.1=p.2) (hh:∀ p ∈ rh,hg σ.h p.1=p.2) (hy:xs.map (·.1)=ys) (hr:keys rh=rhN) (hw:wh.map (·.1)=whN):OutOK P W o σ (.eff ⟨dst,v,wh⟩ ⟨ys.flatMap rdN,dN dst,rhN,whN⟩) :=
 ⟨_,h.w,⟨reads_rds hx,hh⟩,by
  show Foot.mk _ _ _ _=Foot.mk _ _ _ _
  rw [keys_rds,keys_wT,hy,hr]
  simp only [keys,List.map_map]
  rw [show ((fun x:Nat×Option GE=>x.fst) ∘ fun p:Nat×GE=>(p.fst,some p.snd))=fun p:Nat×GE=>p.1 from rfl,hw],up_den _ _ _ rfl rfl rfl,hd⟩
theorem oMove_ok {P:Program} {W:World} {σ:AS} {o:Oper} {x:Operand} (ho:o.op=.move x\/o.op=.assign x):OutOK P W o σ (oV [x] [] o.dst (evL σ x)) :=
 outOK_v [(x,evL σ x)] [] (ok_move ho (evL_den σ x)) (by simp) (by simp) rfl rfl
def oPick (σ:AS) (c x y:Operand) (dst:Option Nat):AV->Out
 | .val (.bool b)=>.ite b (oV [c,x,y] [] dst (evL σ x)) (oV [c,x,y] [] dst (evL σ y))
 | _=>.fail
theorem oPick_ok {P:Program} {W:World} {σ:AS} {o:Oper} {c x y:Operand} (ho:o.op=.pick c x y):OutOK P W o σ (oPick σ c x y o.dst (evL σ c)):=by
 unfold oPick
 split
 ·rename_i b hc
  have h:=ok_pick (P:=P) (t:=σ.den.t) (b:=b) ho (by rw [evL_den];exact hc) (evL_den σ x) (evL_den σ y)
  refine ⟨fun hb=>?_,fun hb=>?_⟩<;>subst hb
  ·exact outOK_v [(c,.val (.bool true)),(x,evL σ x),(y,evL σ y)] [] h (by simpa using hc) (by simp) rfl rfl
  ·exact outOK_v [(c,.val (.bool false)),(x,evL σ x),(y,evL σ y)] [] h (by simpa using hc) (by simp) rfl rfl
 ·trivial
def oExtract (x:Operand) (i:Nat) (dst:Option Nat):AV->Out
 | .tup cs=>oVo [x] [] dst (cs[i]?)
 | _=>.fail
theorem oExtract_ok {P:Program} {W:World} {σ:AS} {o:Oper} {x:Operand} {i:Nat} (ho:o.op=.extract x i):OutOK P W o σ (oExtract x i o.dst (evL σ x)):=by
 unfold oExtract
 split
 ·rename_i cs hx
  cases h:cs[i]? with
  | none=>simp only [oVo];trivial
  | some X=>exact outOK_v [(x,.tup cs)] [] (ok_extract ho (by rw [evL_den];exact hx) h) (by simpa using hx) (by simp) rfl rfl
 ·trivial
def oVv (xs:List Operand) (dst:Option Nat):Option Value->Out
 | some v=>oV xs [] dst (.val v)
 | none=>.fail
def isC:Operand->Bool
 | .const _=>true
 | _=>false
theorem eq_nil_run {P:Program} {w:World} {xT:TypeId} {ms:Array (String×TypeId)} {d:Nat} (hT:P.underlying xT=some (.interface ms)):(Op.equalIn (d+1) xT .nilIface .nilIface).run P w=.ok true w:=by
 rw [Op.equalIn]
 simp only [Sem.run_bind,run_underlying hT,Result.andThen_ok,Sem.run_pure]
theorem ok_nilCmp {P:Program} {o:Oper} {t:Nat->AV} {op:BinOp} {xT yT:TypeId} {x y:Operand} {ms:Array (String×TypeId)} (ho:o.op=.binOp op xT x y yT) (hop:op=.eql\/op=.neq) (hT:P.underlying xT=some (.interface ms))
 (hx:evA t x=.val .nilIface) (hy:evA t y=.val .nilIface) (hc:isC y=true) :
 LocalOK P o {rt:=rds [(x,.val .nilIface),(y,.val .nilIface)],rh:=[],dst:=o.dst,v:=.val (.bool (decide (op=.eql)))} :=
 localOKn [(x,.val .nilIface),(y,.val .nilIface)] [] _ (by simpa using ⟨hx,hy⟩) fun E σ a w β I _ hR _=>by
  have h1:=(hR (x,.val .nilIface) (by simp)).val_inv
  have h2:=(hR (y,.val .nilIface) (by simp)).val_inv
  simp only at h1 h2
  have he:(Op.equal xT .nilIface .nilIface).run P w=.ok true w:=eq_nil_run (d:=9999) hT
  refine ⟨_,?_,.val _ _⟩
  cases y with
  | const cv =>
   rcases hop with rfl|rfl<;>simp [execOp,ho,h1,h2,eqGuard_nil_constR,binOp,he]
  | _=>cases hc
def oBin (T:Ty) (op:BinOp) (x y:Operand) (dst:Option Nat):AV->AV->Out
 | .val (.int k a),.val v=>oVv [x,y] dst (binV op (.int k a) v)
 | .str a,.str b =>
  match op with
  | .add=>.req (a.length+b.length<=maxLen) (oV [x,y] [] dst (.str (a++b)))
  | op=>oVo [x,y] [] dst (strV op a b)
 | .val (.bool a),.val (.bool b) =>
  if T.bl=true then
   match op with
   | .eql=>oV [x,y] [] dst (.val (.bool (a == b)))
   | .neq=>oV [x,y] [] dst (.val (.bool (!(a == b))))
   | _=>.fail
  else .fail
 | .val .nilIface,.val .nilIface =>
  if T.ifc=true/\isC y=true then
   match op with
   | .eql=>oV [x,y] [] dst (.val (.bool true))
   | .neq=>oV [x,y] [] dst (.val (.bool false))
   | _=>.fail
  else .fail
 | _,_=>.fail
theorem oBin_ok {P:Program} {W:World} {σ:AS} {o:Oper} {op:BinOp} {xT yT:TypeId} {x y:Operand} (ho:o.op=.binOp op xT x y yT):OutOK P W o σ (oBin (ty P xT) op x y o.dst (evL σ x) (evL σ y)):=by
 unfold oBin
 split
 ·rename_i k a v hx hy
  cases h:binV op (.int k a) v with
  | none=>simp only [oVv];trivial
  | some r=>exact outOK_v [(x,.val (.int k a)),(y,.val v)] [] (ok_bin ho (by rw [evL_den];exact hx) (by rw [evL_den];exact hy) h) (by simpa using ⟨hx,hy⟩) (by simp) rfl rfl
 ·rename_i a b hx hy
  split
  ·intro hle
   exact outOK_v [(x,.str a),(y,.str b)] [] (ok_binStr (op:=.add) ho (by rw [evL_den];exact hx) (by rw [evL_den];exact hy) rfl (fun _=>hle)) (by simpa using ⟨hx,hy⟩) (by simp) rfl rfl
  ·rename_i hne
   cases h:strV op a b with
   | none=>simp only [oVo];trivial
   | some r=>exact outOK_v [(x,.str a),(y,.str b)] [] (ok_binStr ho (by rw [evL_den];exact hx) (by rw [evL_den];exact hy) h (fun e=>absurd e (by simpa using hne))) (by simpa using ⟨hx,hy⟩) (by simp) rfl rfl
 ·rename_i a b hx hy
  split
  ·rename_i hb
   have hT:=ty_bl hb
   split
   ·exact outOK_v [(x,.val (.bool a)),(y,.val (.bool b))] [] (ok_eqBool ho hT (by rw [evL_den];exact hx) (by rw [evL_den];exact hy)) (by simpa using ⟨hx,hy⟩) (by simp) rfl rfl
   ·exact outOK_v [(x,.val (.bool a)),(y,.val (.bool b))] [] (ok_neBool ho hT (by rw [evL_den];exact hx) (by rw [evL_den];exact hy)) (by simpa using ⟨hx,hy⟩) (by simp) rfl rfl
   ·trivial
  ·trivial
 ·rename_i hx hy
  split
  ·rename_i hb
   obtain ⟨ms,hT⟩:=ty_ifc hb.1
   split
   ·exact outOK_v [(x,.val .nilIface),(y,.val .nilIface)] [] (ok_nilCmp (op:=.eql) ho (.inl rfl) hT (by rw [evL_den];exact hx) (by rw [evL_den];exact hy) hb.2) (by simpa using ⟨hx,hy⟩) (by simp) rfl rfl
   ·exact outOK_v [(x,.val .nilIface),(y,.val .nilIface)] [] (ok_nilCmp (op:=.neq) ho (.inr rfl) hT (by rw [evL_den];exact hx) (by rw [evL_den];exact hy) hb.2) (by simpa using ⟨hx,hy⟩) (by simp) rfl rfl
   ·trivial
  ·trivial
 ·trivial
def oUn (op:UnOp) (x:Operand) (dst:Option Nat):AV->Out
 | .val (.bool b)=>match op with|.not=>oV [x] [] dst (.val (.bool (!b)))|_=>.fail
 | .val (.int k n)=>match op with|.neg=>oV [x] [] dst (.val (.int k (k.wrap (0 - n))))|_=>.fail
 | _=>.fail
theorem oUn_ok {P:Program} {W:World} {σ:AS} {o:Oper} {op:UnOp} {xT:TypeId} {x:Operand} (ho:o.op=.unOp op xT x):OutOK P W o σ (oUn op x o.dst (evL σ x)):=by
 unfold oUn
 split
 ·rename_i b hx
  split
  ·exact outOK_v [(x,.val (.bool b))] [] (ok_not ho (by rw [evL_den];exact hx)) (by simpa using hx) (by simp) rfl rfl
  ·trivial
 ·rename_i k n hx
  split
  ·exact outOK_v [(x,.val (.int k n))] [] (ok_neg ho (by rw [evL_den];exact hx)) (by simpa using hx) (by simp) rfl rfl
  ·trivial
 ·trivial
def oConv (sok:Bool) (x:Operand) (dst:Option Nat):Option IntKind->AV->Out
 | some j,.val (.int _ n)=>if sok=true then oV [x] [] dst (.val (.int j (j.wrap n))) else .fail
 | _,_=>.fail
theorem oConv_ok {P:Program} {W:World} {σ:AS} {o:Oper} {sT dT:TypeId} {x:Operand} (ho:o.op=.convert sT dT x):OutOK P W o σ (oConv (ty P sT).ok x o.dst (ty P dT).ik (evL σ x)):=by
 unfold oConv
 split
 ·rename_i j k n hj hx
  split
  ·rename_i hs
   obtain ⟨d,i,hd,hi,he⟩:=ty_ok hs
   exact outOK_v [(x,.val (.int k n))] [] (ok_convInt ho hd (ty_ik hj) (by rw [evL_den];exact hx)) (by simpa using hx) (by simp) rfl rfl
  ·trivial
 ·trivial
def oByte (x ix:Operand) (dst:Option Nat):Option UInt8->Out
 | some b=>oV [x,ix] [] dst (.val (.int .u8 b.toNat))
 | none=>.fail
def oIndex (T:Ty) (x ix:Operand) (dst:Option Nat):AV->AV->Out
 | .str l,.val (.int _ i)=>if T.str=true then .req (0<=i) (.byt (l[i.toNat]?) (oByte x ix dst)) else .fail
 | _,_=>.fail
theorem oIndex_ok {P:Program} {W:World} {σ:AS} {o:Oper} {xT:TypeId} {x ix:Operand} (ho:o.op=.index xT x ix):OutOK P W o σ (oIndex (ty P xT) x ix o.dst (evL σ x) (evL σ ix)):=by
 unfold oIndex
 split
 ·rename_i l k i hx hi
  split
  ·rename_i hT
   intro h0
   simp only [OutOK]
   cases hb:l[i.toNat]? with
   | none=>simp only [oByte];trivial
   | some b=>exact outOK_v [(x,.str l),(ix,.val (.int k i))] [] (ok_indexStr ho (ty_str hT) (by rw [evL_den];exact hx) (by rw [evL_den];exact hi) h0 hb) (by simpa using ⟨hx,hi⟩) (by simp) rfl rfl
  ·trivial
 ·trivial
def oLen (T:Ty) (x:Operand) (dst:Option Nat):AV->Out
 | .str l=>if T.str=true then oV [x] [] dst (.val (.int .i64 l.length)) else .fail
 | .sl _ els _=>if T.el.isSome=true then oV [x] [] dst (.val (.int .i64 els.length)) else .fail
 | .gs _ _ len=>if T.el.isSome=true then oV [x] [] dst (.val (.int .i64 len)) else .fail
 | .val (.slice none 0 0)=>if T.el.isSome=true then oV [x] [] dst (.val (.int .i64 0)) else .fail
 | _=>.fail
theorem oLen_ok {P:Program} {W:World} {σ:AS} {o:Oper} {T:TypeId} {x:Operand} (ho:o.op=.call {callee:=.builtin .len,args:=#[x],argTypes:=#[T]}):OutOK P W o σ (oLen (ty P T) x o.dst (evL σ x)):=by
 have el:(ty P T).el.isSome=true->∃ e,P.underlying T=some (.slice e):=fun h=>by
  obtain ⟨e,he⟩:=Option.isSome_iff_exists.1 h
  exact ⟨e,ty_el he⟩
 unfold oLen
 split
 ·rename_i l hx
  split
  ·rename_i hT
   exact outOK_v [(x,.str l)] [] (ok_len (X:=.str l) ho (ty_str hT) (by rw [evL_den];exact hx) rfl) (by simpa using hx) (by simp) rfl rfl
  ·trivial
 ·rename_i n els rest hx
  split
  ·rename_i hT
   exact outOK_v [(x,.sl n els rest)] [] (ok_len (X:=.sl n els rest) ho (el hT) (by rw [evL_den];exact hx) rfl) (by simpa using hx) (by simp) rfl rfl
  ·trivial
 ·rename_i k i len hx
  split
  ·rename_i hT
   exact outOK_v [(x,.gs k i len)] [] (ok_len (X:=.gs k i len) ho (el hT) (by rw [evL_den];exact hx) rfl) (by simpa using hx) (by simp) rfl rfl
  ·trivial
 ·rename_i hx
  split
  ·rename_i hT
   exact outOK_v [(x,.val (.slice none 0 0))] [] (ok_len (X:=.val (.slice none 0 0)) ho (el hT) (by rw [evL_den];exact hx) rfl) (by simpa using hx) (by simp) rfl rfl
  ·trivial
 ·trivial
def bI (σ:AS):Option Operand->Nat->Option Int
 | none,d=>some d
 | some y,_=>match evL σ y with|.val (.int _ i)=>some i|_=>none
theorem bI_bnd {σ:AS} {b:Option Operand} {d:Nat} {i:Int} (h:bI σ b d=some i) (h0:0<=i):∃ xs,Bnd σ.den.t b xs d i.toNat/\xs.map (·.1)=b.toList/\∀ p ∈ xs,evL σ p.1=p.2:=by
 cases b with
 | none =>
  simp only [bI,Option.some.injEq] at h
  subst h
  exact ⟨[],.inl ⟨rfl,by simp,rfl⟩,rfl,by simp⟩
 | some y =>
  simp only [bI] at h
  split at h
  ·rename_i k j hy
   cases h
   exact ⟨[(y,.val (.int k i))],.inr ⟨y,k,i,rfl,by rw [evL_den];exact hy,h0,rfl,rfl⟩,rfl,by simpa using hy⟩
  ·cases h
def oSliceG (e:TypeId) (n:Nat) (xs:List Operand) (dst:Option Nat) (k i0 len:Nat) (l h:Int):Option GE->Out
 | some (.arr e' n' _ _)=>if e=e'/\n=n' then .req (0<=l/\0<=h) (.req (l<=h/\h<=len) (oV xs [k] dst (.gs k (i0+l.toNat) (h.toNat - l.toNat)))) else .fail
 | _=>.fail
def oSlice (P:Program) (σ:AS) (T:Ty) (x:Operand) (lo hi:Option Operand) (dst:Option Nat):AV->Option Int->Option Int->Out
 | .str s,some l,some h=>if T.str=true then .req (0<=l/\0<=h) (.req (l<=h/\h<=s.length) (oV (x::(lo.toList++hi.toList)) [] dst (.str ((s.take h.toNat).drop l.toNat)))) else .fail
 | .sl n els rest,some l,some h =>
  match T.el with
  | some e=>if (ty P e).ok=true/\(ty P e).size=n then .req (0<=l/\0<=h) (.req (l<=h/\h<=els.length+rest.length) (oV (x::(lo.toList++hi.toList)) [] dst (.sl n (((els++rest).take h.toNat).drop l.toNat) ((els++rest).drop h.toNat)))) else .fail
  | none=>.fail
 | .gs k i0 len,some l,some h =>
  match T.el with
  | some e=>if (ty P e).ok=true then oSliceG e (ty P e).size (x::(lo.toList++hi.toList)) dst k i0 len l h (hg σ.h k) else .fail
  | none=>.fail
 | .val (.slice none 0 0),some l,some h =>
  match T.el with
  | some e=>if (ty P e).ok=true then .req (l=0/\h=0) (oV (x::(lo.toList++hi.toList)) [] dst (.val (.slice none 0 0))) else .fail
  | none=>.fail
 | _,_,_=>.fail
def defLen:AV->Nat
 | .str l=>l.length
 | .sl _ els _=>els.length
 | .gs _ _ len=>len
 | _=>0
theorem mem3 {σ:AS} {x:Operand} {X:AV} {a b:List (Operand×AV)} (hx:evL σ x=X) (ha:∀ p ∈ a,evL σ p.1=p.2) (hb:∀ p ∈ b,evL σ p.1=p.2):∀ p ∈ (x,X)::(a++b),evL σ p.1=p.2:=by
 intro p hp
 simp only [List.mem_cons,List.mem_append] at hp
 rcases hp with rfl|hp|hp
 ·exact hx
 ·exact ha p hp
 ·exact hb p hp
theorem oSlice_ok {P:Program} {W:World} {σ:AS} {o:Oper} {T:TypeId} {x:Operand} {lo hi:Option Operand} (ho:o.op=.slice T x lo hi none) :
 OutOK P W o σ (oSlice P σ (ty P T) x lo hi o.dst (evL σ x) (bI σ lo 0) (bI σ hi (defLen (evL σ x)))):=by
 generalize hl:bI σ lo 0=L
 generalize hh:bI σ hi (defLen (evL σ x))=U
 unfold oSlice
 split
 ·rename_i s l h hx
  rw [hx] at hh
  split
  ·rename_i hT
   intro h0 h1
   obtain ⟨xlo,b1,b2,b3⟩:=bI_bnd hl h0.1
   obtain ⟨xhi,c1,c2,c3⟩:=bI_bnd hh h0.2
   have:=ok_sliceStr (P:=P) (s:=s) ho (ty_str hT) (by rw [evL_den];exact hx) b1 c1 (by omega) (by omega)
   exact outOK_v _ [] this (mem3 hx b3 c3) (by simp) (by simp [b2,c2]) rfl
  ·trivial
 ·rename_i n els rest l h hx
  rw [hx] at hh
  split
  ·rename_i e hel
   split
   ·rename_i hc
    intro h0 h1
    obtain ⟨d,i,hd,hi,he⟩:=ty_ok hc.1
    have hsz:(ty P e).size=i.size:=by rw [he,tyD_size]
    obtain ⟨xlo,b1,b2,b3⟩:=bI_bnd hl h0.1
    obtain ⟨xhi,c1,c2,c3⟩:=bI_bnd hh h0.2
    have:=ok_sliceSl (P:=P) (els:=els) (rest:=rest) ho (ty_el hel) hi (by rw [<-hsz,hc.2]) (by rw [evL_den];exact hx) b1 c1 (by omega) (by omega)
    exact outOK_v _ [] this (mem3 hx b3 c3) (by simp) (by simp [b2,c2]) rfl
   ·trivial
  ·trivial
 ·rename_i k i0 len l h hx
  rw [hx] at hh
  split
  ·rename_i e hel
   split
   ·rename_i hc
    obtain ⟨d,i,hd,hi,he⟩:=ty_ok hc
    have hsz:(ty P e).size=i.size:=by rw [he,tyD_size]
    cases hb:hg σ.h k with
    | none=>simp only [oSliceG];trivial
    | some g =>
     cases g with
     | box el st=>simp only [oSliceG];trivial
     | map es st=>simp only [oSliceG];trivial
     | iter s p=>simp only [oSliceG];trivial
     | dead=>simp only [oSliceG];trivial
     | arr e' n' els st =>
      simp only [oSliceG]
      split
      ·rename_i hq
       obtain ⟨rfl,rfl⟩:=hq
       intro h0 h1
       obtain ⟨xlo,b1,b2,b3⟩:=bI_bnd hl h0.1
       obtain ⟨xhi,c1,c2,c3⟩:=bI_bnd hh h0.2
       have:=ok_sliceGs (P:=P) (els:=els) (st:=st) (len:=len) ho (ty_el hel) hi hsz.symm (by rw [evL_den];exact hx) b1 c1 (by omega) (by omega)
       exact outOK_v _ [(k,some (.arr e (ty P e).size els st))] this (mem3 hx b3 c3) (by simpa using hb) (by simp [b2,c2]) rfl
      ·trivial
   ·trivial
  ·trivial
 ·rename_i l h hx
  rw [hx] at hh
  split
  ·rename_i e hel
   split
   ·rename_i hc
    obtain ⟨d,i,hd,hi,he⟩:=ty_ok hc
    intro h0
    obtain ⟨xlo,b1,b2,b3⟩:=bI_bnd hl (by omega)
    obtain ⟨xhi,c1,c2,c3⟩:=bI_bnd hh (by omega)
    have e1:l.toNat=0:=by omega
    have e2:h.toNat=0:=by omega
    rw [e1] at b1
    rw [e2] at c1
    have:=ok_sliceNil (P:=P) ho (ty_el hel) hi (by rw [evL_den];exact hx) b1 c1
    exact outOK_v _ [] this (mem3 hx b3 c3) (by simp) (by simp [b2,c2]) rfl
   ·trivial
  ·trivial
 ·trivial
end Go.Ac

namespace Go.Ac
open Go
def oBox (x:Operand) (dst:Option Nat) (X:AV):Option Nat->Out
 | some k=>if X.sto=true then .eff ⟨dst,.gp k 0,[(k,.box X .own)]⟩ ⟨rdN x,dN dst,[k],[k]⟩ else .fail
 | none=>.fail
theorem oBox_ok {P:Program} {W:World} {σ:AS} {o:Oper} {T:TypeId} {x:Operand} (ho:o.op=.box T x) {m:Option Nat} (hm:∀ k,m=some k->hg σ.h k=none):OutOK P W o σ (oBox x o.dst (evL σ x) m):=by
 cases hk:m with
 | none=>simp only [oBox];trivial
 | some k =>
  simp only [oBox]
  split
  ·rename_i hs
   have:=outOK_w (P:=P) (W:=W) (σ:=σ) [(x,evL σ x)] [(k,none)] [(k,.box (evL σ x) .own)] (ok_box (d:=k) ho (evL_den σ x) hs) rfl (by simp) (by simpa using hm _ hk) (ys:=[x]) (rhN:=[k]) (whN:=[k]) rfl rfl rfl
   simpa using this
  ·trivial
def oAlloc (T:Ty) (dst:Option Nat):Option Nat->Out
 | some k=>if T.okz=true/\T.z.sto=true then .eff ⟨dst,.gp k 0,[(k,.box T.z .own)]⟩ ⟨[],dN dst,[k],[k]⟩ else .fail
 | none=>.fail
theorem oAlloc_ok {P:Program} {W:World} {σ:AS} {o:Oper} {T:TypeId} (ho:o.op=.alloc T) {m:Option Nat} (hm:∀ k,m=some k->hg σ.h k=none):OutOK P W o σ (oAlloc (ty P T) o.dst m):=by
 cases hk:m with
 | none=>simp only [oAlloc];trivial
 | some k =>
  simp only [oAlloc]
  split
  ·rename_i hs
   obtain ⟨i,z,h1,h2,h3,h4,h5,h6,h7⟩:=ty_zero hs.1
   rw [h5] at hs ⊢
   exact outOK_w (P:=P) (W:=W) [] [(k,none)] [(k,.box (zeroA z) .own)] (ok_alloc (d:=k) ho h1 h2 hs.2) rfl (by simp) (by simpa using hm _ hk) (ys:=[]) rfl rfl rfl
  ·trivial
def avL (σ:AS) (ps:List (Nat×Operand)):List (Nat×AV):=ps.map fun p=>(p.1,evL σ p.2)
theorem avL_eq (σ:AS) (ps:List (Nat×Operand)):avals σ.den.t ps=avL σ ps:=by
 unfold avals avL
 apply List.map_congr_left
 intro p _
 rw [evL_den]
theorem arts_ev (σ:AS) (ps:List (Nat×Operand)):∀ p ∈ arts σ.den.t ps,evL σ p.1=p.2:=by
 intro p hp
 obtain ⟨q,_,rfl⟩:=List.mem_map.1 hp
 exact (evL_den σ q.2).symm
theorem arts_fst (t:Nat->AV) (ps:List (Nat×Operand)):(arts t ps).map (·.1)=ps.map (·.2):=by
 unfold arts;rw [List.map_map];rfl
def oAgg (xs:List Operand) (dst:Option Nat):Option (List AV)->Out
 | some cs=>oV xs [] dst (.agg cs)
 | none=>.fail
def oBuild (T:Ty) (σ:AS) (ps:List (Nat×Operand)) (dst:Option Nat):Out :=
 if T.okz=true/\T.z.isAgg=true/\T.fo ≠ [] then oAgg (ps.map (·.2)) dst (fillA (T.fo[·]?) T.z.flat (avL σ ps)) else .fail
theorem oBuild_ok {P:Program} {W:World} {σ:AS} {o:Oper} {T:TypeId} {ps:Array (Nat×Operand)} (ho:o.op=.build T ps):OutOK P W o σ (oBuild (ty P T) σ ps.toList o.dst):=by
 unfold oBuild
 split
 ·rename_i hc
  obtain ⟨i,z,h1,h2,h3,h4,h5,h6,h7⟩:=ty_zero hc.1
  cases hf:fillA ((ty P T).fo[·]?) (ty P T).z.flat (avL σ ps.toList) with
  | none=>simp only [oAgg];trivial
  | some cs =>
   obtain ⟨q,hq⟩:∃ q,(ty P T).fo[0]?=some q:=by
    cases hfo:(ty P T).fo with
    | nil=>exact absurd hfo hc.2.2
    | cons q l=>exact ⟨q,rfl⟩
   obtain ⟨fs,places,p1,p2,p3⟩:=ty_fo hq
   have hag:∃ cz,z=.agg cz:=by
    have hz:=hc.2.1
    rw [h5] at hz
    cases z<;>first|exact ⟨_,rfl⟩|(simp [zeroA,zc,AV.isAgg] at hz;done)
   obtain ⟨cz,rfl⟩:=hag
   rw [h5,p3] at hf
   have hfl:(zeroA (.agg cz)).flat=cz.toList.map zc:=rfl
   rw [hfl,<-avL_eq] at hf
   exact outOK_v (arts σ.den.t ps.toList) [] (ok_build ho h1 p1 h2 (by simpa [Value.cells] using h4) p2 hf) (arts_ev σ _) (by simp) (arts_fst _ _) rfl
 ·trivial
def oBuildArr (P:Program) (T:Ty) (n:Nat) (e:TypeId) (σ:AS) (ps:List (Nat×Operand)) (dst:Option Nat):Out :=
 if T.okz=true/\T.z.isAgg=true/\(ty P e).ok=true then oAgg (ps.map (·.2)) dst (fillA (fun i=>some (i * (ty P e).size,(ty P e).size)) T.z.flat (avL σ ps)) else .fail
theorem oBuildArr_ok {P:Program} {W:World} {σ:AS} {o:Oper} {T e:TypeId} {n:Nat} {ps:Array (Nat×Operand)} (ho:o.op=.build T ps) (har:(ty P T).ar=some (n,e)):OutOK P W o σ (oBuildArr P (ty P T) n e σ ps.toList o.dst):=by
 unfold oBuildArr
 split
 ·rename_i hc
  obtain ⟨i,z,h1,h2,h3,h4,h5,h6,h7⟩:=ty_zero hc.1
  obtain ⟨d,ie,hd,hie,he⟩:=ty_ok hc.2.2
  have hsz:(ty P e).size=ie.size:=by rw [he,tyD_size]
  rw [hsz]
  cases hf:fillA (fun i=>some (i * ie.size,ie.size)) (ty P T).z.flat (avL σ ps.toList) with
  | none=>simp only [oAgg];trivial
  | some cs =>
   have hag:∃ cz,z=.agg cz:=by
    have hz:=hc.2.1
    rw [h5] at hz
    cases z<;>first|exact ⟨_,rfl⟩|(simp [zeroA,zc,AV.isAgg] at hz;done)
   obtain ⟨cz,rfl⟩:=hag
   rw [h5] at hf
   have hfl:(zeroA (.agg cz)).flat=cz.toList.map zc:=rfl
   rw [hfl,<-avL_eq] at hf
   exact outOK_v (arts σ.den.t ps.toList) [] (ok_buildArr ho h1 (ty_ar har) hie h2 (by simpa [Value.cells] using h4) hf) (arts_ev σ _) (by simp) (arts_fst _ _) rfl
 ·trivial
end Go.Ac

namespace Go.Ac
open Go
section
variable {β:Nat->Plc} {D I:Nat->Prop} {H:Array Obj} {m:Bool} {σ:AS} {a:Act}
theorem RL_ops:∀ (l:List Operand),(∀ x ∈ l,R β D I H m (evL σ x) (a.eval x))->RL β D I H m (l.map (evL σ)) (l.map a.eval)
 | [],_=>.nil _
 | x::l,h=>.cons (h x (by simp)) (RL_ops l fun y hy=>h y (by simp [hy]))
end
def prs (σ:AS) (l:List Operand):List (Operand×AV):=l.map fun x=>(x,evL σ x)
theorem prs_ev (σ:AS) (l:List Operand):∀ p ∈ prs σ l,evL σ p.1=p.2:=by
 intro p hp;obtain ⟨x,_,rfl⟩:=List.mem_map.1 hp;rfl
theorem prs_fst (σ:AS) (l:List Operand):(prs σ l).map (·.1)=l:=by
 unfold prs;rw [List.map_map];exact (List.map_congr_left fun _ _=>rfl).trans (List.map_id l)
theorem prs_keys (σ:AS) (l:List Operand):keys (rds (prs σ l))=l.flatMap rdN:=by rw [keys_rds,prs_fst]
theorem prs_den (σ:AS) (l:List Operand):∀ p ∈ prs σ l,evA σ.den.t p.1=p.2:=fun p hp=>by rw [evL_den];exact prs_ev σ l p hp
theorem prs_mem {σ:AS} {l:List Operand} {x:Operand} (h:x ∈ l):(x,evL σ x) ∈ prs σ l:=List.mem_map.2 ⟨x,h,rfl⟩
theorem oMakeFunc_ok {P:Program} {W:World} {σ:AS} {o:Oper} {fn:Fn} {xs ys:Array Operand} (ho:o.op=.makeFunc fn xs ys) :
 OutOK P W o σ (oV (xs.toList++ys.toList) [] o.dst (.fn fn (xs.toList.map (evL σ)) (ys.toList.map (evL σ)))):=by
 refine outOK_v (prs σ (xs.toList++ys.toList)) [] (localOKn (t:=σ.den.t) _ [] _ (prs_den σ _) fun E τ a w β I r hR _=>?_) (prs_ev σ _) (by simp) (prs_fst σ _) rfl
 refine ⟨.func fn (xs.map a.eval) (ys.map a.eval),by simp [execOp,ho,Instr.makeFunc],?_⟩
 have h1:=RL_ops (σ:=σ) (a:=a) xs.toList fun x hx=>hR _ (prs_mem (l:=xs.toList++ys.toList) (by simp [hx]))
 have h2:=RL_ops (σ:=σ) (a:=a) ys.toList fun x hx=>hR _ (prs_mem (l:=xs.toList++ys.toList) (by simp [hx]))
 have:=R.fn (f:=fn) h1 h2
 have e:∀ l:Array Operand,(l.toList.map a.eval).toArray=l.map a.eval:=fun l=>by rw [<-Array.toList_map]
 rwa [e,e] at this
theorem oMakeIfc_ok {P:Program} {W:World} {σ:AS} {o:Oper} {T:TypeId} {x:Operand} (ho:o.op=.makeInterface T x) (hT:(ty P T).ok=true) (hi:(ty P T).ifc=false) :
 OutOK P W o σ (oV [x] [] o.dst (.ifc T (evL σ x))):=by
 obtain ⟨d,i,hd,hi',he⟩:=ty_ok hT
 refine outOK_v [(x,evL σ x)] [] (localOKn (t:=σ.den.t) _ [] _ (by simpa using evL_den σ x) fun E τ a w β I r hR _=>?_) (by simp) (by simp) rfl rfl
 refine ⟨.iface T (a.eval x),?_,.ifc (hR (x,evL σ x) (by simp))⟩
 rw [he] at hi
 cases d<;>first
  | (simp [execOp,ho,Instr.makeInterface,run_underlying hd];done)
  | (simp [tyD] at hi)
theorem run_callFunc {P:Program} {w:World} {f:FuncId} {args:Array Value} (hf:callable P f=true):(callFunc f args).run P w=.ok (.enter f args) w:=by
 unfold callable at hf
 cases hfn:P.funcs[f]? with
 | none=>rw [hfn] at hf;cases hf
 | some fn =>
  rw [hfn] at hf
  simp only [Bool.and_eq_true,Bool.not_eq_true'] at hf
  obtain ⟨h1,h2⟩:=hf
  have h4:¬ fn.name= "runtime.NumGoroutine":=by simpa using h2
  have h5:¬ fn.body=none:=by intro h;rw [h] at h1;cases h1
  simp [callFunc,hfn,h4,h5]
def oDyn (x:Operand) (xs:List Operand) (σ:AS) (dst:Option Nat):AV->Out
 | .fn (.func f) fs cs=>.call f (fs++(xs.map (evL σ)++cs)) ((x::xs).flatMap rdN) dst
 | .val (.func (.func f) ⟨[]⟩ ⟨[]⟩)=>.call f (xs.map (evL σ)) ((x::xs).flatMap rdN) dst
 | _=>.fail
theorem R.fn_inv {β:Nat->Plc} {D I:Nat->Prop} {H:Array Obj} {m:Bool} {f:Fn} {xs ys:List AV} {v:Value} (h:R β D I H m (.fn f xs ys) v) :
 ∃ vs us:List Value,v=.func f vs.toArray us.toArray/\RL β D I H m xs vs/\RL β D I H m ys us:=by
 cases h with
 | fn h1 h2=>exact ⟨_,_,rfl,h1,h2⟩
theorem oDyn_ok {P:Program} {W:World} {σ:AS} {o:Oper} {x:Operand} {xs:Array Operand} {ts:Array TypeId} (ho:o.op=.call {callee:=.value x,args:=xs,argTypes:=ts}) :
 OutOK P W o σ (oDyn x xs.toList σ o.dst (evL σ x)):=by
 cases hx:evL σ x<;>simp only [oDyn]<;>try trivial
 case val v =>
  split
  ·trivial
  ·rename_i f hv
   refine ⟨rfl,prs σ (x::xs.toList),prs_keys σ _,fun hf=>⟨prs_den σ _,fun E τ a w β I r hR=>⟨xs.toList.map a.eval,?_,RL_ops xs.toList fun y hy=>hR _ (prs_mem (by simp [hy]))⟩⟩⟩
   cases hv
   have h0:=hR _ (prs_mem (σ:=σ) (l:=x::xs.toList) (x:=x) (by simp))
   simp only at h0
   rw [hx] at h0
   have h1:=h0.val_inv
   have:=run_callFunc (P:=P) (w:=w) (args:=(xs.toList.map a.eval).toArray) hf
   rw [<-Array.toList_map,Array.toArray_toList] at this ⊢
   simpa [execOp,ho,resolve,Deferred.ofValue,h1,invoke] using this
  ·trivial
 case fn f fs cs =>
  cases f<;>simp only [oDyn]<;>try trivial
  rename_i f
  refine ⟨rfl,prs σ (x::xs.toList),prs_keys σ _,fun hf=>⟨prs_den σ _,fun E τ a w β I r hR=>?_⟩⟩
  have h0:=hR _ (prs_mem (σ:=σ) (l:=x::xs.toList) (x:=x) (by simp))
  simp only at h0
  rw [hx] at h0
  obtain ⟨vs,us,h1,h2,h3⟩:=h0.fn_inv
  refine ⟨vs++(xs.toList.map a.eval++us),?_,h2.append ((RL_ops xs.toList fun y hy=>hR _ (prs_mem (by simp [hy]))).append h3)⟩
  have:=run_callFunc (P:=P) (w:=w) (args:=(vs++(xs.toList.map a.eval++us)).toArray) hf
  have e:vs.toArray++xs.map a.eval++us.toArray=(vs++(xs.toList.map a.eval++us)).toArray:=by
   apply Array.ext';simp
  rw [<-e] at this ⊢
  simpa [execOp,ho,resolve,Deferred.ofValue,h1,invoke] using this
def meth (P:Program) (t:TypeId) (name:String):Option FuncId :=
 match P.info? t with
 | some i=>match i.methods.find? (·.name == name) with
  | some m=>if m.path=#[] then match m.func,P.underlying t with
   | some (f,true),some (.pointer _)=>some f
   | some (_,false),some (.pointer _)=>none
   | some (f,false),some _=>some f
   | _,_=>none
   else none
  | none=>none
 | none=>none
theorem meth_run {P:Program} {w:World} {t:TypeId} {name:String} {f:FuncId} {v:Value} {n:Nat} (h:meth P t name=some f):(method (n+1) t v name).run P w=.ok (f,v) w:=by
 unfold meth at h
 split at h
 case h_2=>cases h
 rename_i i hi
 split at h
 case h_2=>cases h
 rename_i m hm
 split at h
 case isFalse=>cases h
 rename_i hp
 have hi':=run_typeInfo (P:=P) (w:=w) hi
 split at h
 ·rename_i f' e hf hu
  cases h
  simp [method,hi',hm,hp,follow,hf,receiverAt,run_underlying hu,Place.get]
 ·cases h
 ·rename_i f' d hne hf hu
  cases h
  cases d<;>first
   | (exact absurd rfl (hne _))
   | (simp [method,hi',hm,hp,follow,hf,receiverAt,run_underlying hu,Place.get])
 ·cases h
def oInvF (x:Operand) (xs:List Operand) (σ:AS) (dst:Option Nat) (r:AV):Option FuncId->Out
 | some f=>.call f (r::xs.map (evL σ)) ((x::xs).flatMap rdN) dst
 | none=>.fail
def oInv (P:Program) (x:Operand) (xs:List Operand) (name:String) (σ:AS) (dst:Option Nat):AV->Out
 | .ifc t r=>oInvF x xs σ dst r (meth P t name)
 | _=>.fail
theorem oInv_ok {P:Program} {W:World} {σ:AS} {o:Oper} {x:Operand} {name:String} {xs:Array Operand} {ts:Array TypeId} (ho:o.op=.call {callee:=.invoke x name,args:=xs,argTypes:=ts}) :
 OutOK P W o σ (oInv P x xs.toList name σ o.dst (evL σ x)):=by
 cases hx:evL σ x<;>simp only [oInv]<;>try trivial
 case ifc t r0 =>
  cases hm:meth P t name with
  | none=>simp only [oInvF];trivial
  | some f =>
   simp only [oInvF]
   refine ⟨rfl,prs σ (x::xs.toList),prs_keys σ _,fun hf=>⟨prs_den σ _,fun E τ a w β I r hR=>?_⟩⟩
   have h0:=hR _ (prs_mem (σ:=σ) (l:=x::xs.toList) (x:=x) (by simp))
   simp only at h0
   rw [hx] at h0
   generalize hv:a.eval x=v at h0
   cases h0 with
   | ifc h1 =>
    rename_i u
    refine ⟨u::xs.toList.map a.eval,?_,.cons h1 (RL_ops xs.toList fun y hy=>hR _ (prs_mem (by simp [hy])))⟩
    have:=run_callFunc (P:=P) (w:=w) (args:=(u::xs.toList.map a.eval).toArray) hf
    have e:#[u]++xs.map a.eval=(u::xs.toList.map a.eval).toArray:=by apply Array.ext';simp
    have e2:(#[Value.iface t u]++xs.map a.eval).extract 1 (#[Value.iface t u]++xs.map a.eval).size=xs.map a.eval:=by
     apply Array.ext';simp;exact List.take_of_length_le (by simp)
    obtain ⟨n,hn⟩:∃ n,P.types.size+Made.depth=n+1:=⟨P.types.size+Made.depth - 1,by unfold Made.depth;omega⟩
    have hmr:=meth_run (P:=P) (w:=w) (v:=u) (n:=n) hm
    rw [<-hn] at hmr
    rw [<-e] at this ⊢
    have h0':(#[Value.iface t u]++xs.map a.eval)[0]?=some (.iface t u):=by rw [Array.getElem?_append_left (by simp)];rfl
    simp only [execOp,ho,resolve,Sem.run_bind,Sem.run_pure,Result.andThen_ok,hv,invoke,h0',e2,callMethod,run_program,hmr,this]
end Go.Ac

namespace Go.Ac
open Go
def kEq:AV->AV->Option Bool
 | .str a,.str b=>some (decide (a=b))
 | .val (.int k a),.val (.int j b)=>if k=j then some (decide (a=b)) else none
 | _,_=>none
def kOk:TypeDesc->AV->Bool
 | .string,.str _=>true
 | .int _,.val (.int _ _)=>true
 | _,_=>false
def findA:List (AV×AV)->AV->Nat->Option (Option (Nat×AV))
 | [],_,_=>some none
 | (k,v)::l,x,i =>
  match kEq x k with
  | some true=>some (some (i,v))
  | some false=>findA l x (i+1)
  | none=>none
section
variable {β:Nat->Plc} {D I:Nat->Prop} {H:Array Obj} {m m':Bool}
theorem bytes_dec (a b:List UInt8):((⟨a.toArray⟩:ByteArray) == ⟨b.toArray⟩)=decide (a=b):=by
 rw [Bool.eq_iff_iff,Go.MapKept.bytes_beq,decide_eq_true_eq]
 constructor
 ·intro e
  have:=congrArg (fun z:ByteArray=>z.data.toList) e
  simpa using this
 ·rintro rfl;rfl
theorem kEq_now {d:TypeDesc} {x y:AV} {u v:Value} {b:Bool} (hd:kOk d x=true) (hx:R β D I H m x u) (hy:R β D I H m' y v) (h:kEq x y=some b):Instr.sameNow d u v=some b:=by
 unfold kEq at h
 split at h
 ·rename_i a c
  have:=hx.str_inv;have:=hy.str_inv
  subst_vars
  cases d<;>simp [kOk] at hd
  simp only [Option.some.injEq] at h
  simp only [Instr.sameNow,bytes_dec,h]
 ·rename_i k a j c
  have:=hx.val_inv;have:=hy.val_inv
  subst_vars
  split at h
  ·rename_i e
   subst e
   cases d<;>simp [kOk] at hd
   simp only [Option.some.injEq] at h
   simp only [Instr.sameNow,if_true]
   rw [<-h];congr 1
  ·cases h
 ·cases h
theorem findA_now {d:TypeDesc} {x:AV} {u:Value} (hd:kOk d x=true) (hx:R β D I H m' x u):∀ (es:List (AV×AV)) (ms:List MapEntry) (i:Nat) (r:Option (Nat×AV)),
 RL β D I H m (es.map (·.1)) (ms.map (·.key))->RL β D I H m (es.map (·.2)) (ms.map (·.val))->findA es x i=some r →
 (r=none/\Instr.findNow d u ms i=some none)\/∃ j X v,r=some (j,X)/\i<=j/\j<i+ms.length/\R β D I H m X v/\Instr.findNow d u ms i=some (some (j,v))/\(∃ k e,es[j - i]?=some (k,X)/\ms[j - i]?=some e/\kEq x k=some true/\R β D I H m k e.key)
 | [],[],i,r,_,_,h=>by simp only [findA,Option.some.injEq] at h;exact .inl ⟨h.symm,rfl⟩
 | [],_::_,_,_,h1,_,_=>by cases h1
 | _::_,[],_,_,h1,_,_=>by cases h1
 | (k,v)::es,e::ms,i,r,h1,h2,h=>by
  simp only [List.map_cons] at h1 h2
  cases h1 with
  | cons q1 q2 =>
   cases h2 with
   | cons p1 p2 =>
    simp only [findA] at h
    cases hk:kEq x k with
    | none=>rw [hk] at h;cases h
    | some b =>
     have hn:=kEq_now hd hx q1 hk
     rw [hk] at h
     cases b with
     | true =>
      simp only [Option.some.injEq] at h
      exact .inr ⟨i,v,e.val,h.symm,Nat.le_refl _,by simp,p1,by simp only [Instr.findNow,hn],k,e,by simp,by simp,hk,q1⟩
     | false =>
      rcases findA_now hd hx es ms (i+1) r q2 p2 h with ⟨r1,r2⟩|⟨j,X,w,r1,r2,r3,r4,r5,k',e',r6,r7,r8,r9⟩
      ·exact .inl ⟨r1,by simp only [Instr.findNow,hn,r2]⟩
      ·refine .inr ⟨j,X,w,r1,by omega,by simp;omega,r4,by simp only [Instr.findNow,hn,r5],k',e',?_,?_,r8,r9⟩
       ·rw [show j - i=(j - (i+1))+1 by omega];simpa using r6
       ·rw [show j - i=(j - (i+1))+1 by omega];simpa using r7
end
theorem run_checkKey {P:Program} {w:World} {e:Bool} {n:Nat} {t:TypeId} {d:TypeDesc} {x:AV} {v:Value} (ht:P.underlying t=some d) (hd:kOk d x=true):(Instr.checkKey e (n+1) t v).run P w=.ok () w:=by
 cases d<;>simp [kOk] at hd<;>(unfold Instr.checkKey;simp [run_underlying ht])
theorem run_findKey {P:Program} {w:World} {t:TypeId} {d:TypeDesc} {k:Value} {es:List MapEntry} {r:Option (Nat×Value)} (ht:P.underlying t=some d) (h:Instr.findNow d k es 0=some r):(Instr.findKey t k es).run P w=.ok r w:=by
 simp [Instr.findKey,run_underlying ht,h]
theorem R.mp_inv {β:Nat->Plc} {D I:Nat->Prop} {H:Array Obj} {m:Bool} {k:Nat} {v:Value} (h:R β D I H m (.mp k) v):D k/\v=.map (some (β k).b):=by
 cases h with
 | mp h=>exact ⟨h,rfl⟩
theorem rGetObj {P:Program} {w:World} {r:Nat} {es:Array MapEntry} {c:Nat} (h:w.heap[r]?=some (.map es c)):(getObj r).run P w=.ok (.map es c) w:=by simp [getObj,Sem.run,h]
theorem rSetObj {P:Program} {w:World} {r:Nat} {es:Array MapEntry} {c:Nat} (o:Obj) (h:w.heap[r]?=some (.map es c)):(setObj r o).run P w=.ok () {w with heap:=w.heap.setIfInBounds r o}:=by simp [setObj,Sem.run,h]
theorem rTypeInfo {P:Program} {w:World} {t:TypeId} {i:TypeInfo} (h:P.info? t=some i):(typeInfo t).run P w=.ok i w:=by simp [typeInfo,h]
def oMakeMap (dst:Option Nat):Option Nat->Out
 | some k=>.eff ⟨dst,.mp k,[(k,.map [] .own)]⟩ ⟨[],dN dst,[k],[k]⟩
 | none=>.fail
theorem ok_makeMap {P:Program} {o:Oper} {T:TypeId} {d:Nat} (ho:o.op=.makeMap T none) :
 LocalOK P o {rt:=[],rh:=[(d,none)],dst:=o.dst,v:=.mp d,wh:=[(d,some (.map [] .own))]}:=by
 intro E σ a w K Q hN hr ⟨β,I,r⟩ hk
 have hd0:=hr.2 (d,none) (by simp)
 unfold Oper.wp
 have hrun:(execOp a.eval o).run P w=.ok (.value (.map (some w.heap.size))) (w.alloc (.map #[] 0)):=by
  simp [execOp,ho,Instr.makeMap]
 rw [hrun,Oper.upon_value]
 refine hk _ _ ⟨bset β d ⟨w.heap.size,1,0⟩,I,?_⟩
 refine r.create (n:=1) (z:=0) hd0 (Adds.alloc w _) hN (fun K hI=>?_) (fun K=>?_)
 ·refine ⟨#[],0,?_,.nil _,.nil _,(fun e=>by cases e),(fun _=>by rw [bset_same];exact hI)⟩
  rw [bset_same];exact (Adds.alloc w _).new
 ·have hD:dom (hput σ.h d (some (.map [] .own))) d:=by simp only [dom,hput_same,Option.isSome_some]
  have h1:=R.mp (β:=bset β d ⟨w.heap.size,1,0⟩) (I:=I) (H:=(w.alloc (.map #[] 0)).heap) hD
  rw [bset_same] at h1;exact h1
theorem oMakeMap_ok {P:Program} {W:World} {σ:AS} {o:Oper} {T:TypeId} (ho:o.op=.makeMap T none) {m:Option Nat} (hm:∀ k,m=some k->hg σ.h k=none):OutOK P W o σ (oMakeMap o.dst m):=by
 cases hk:m with
 | none=>simp only [oMakeMap];trivial
 | some k =>
  simp only [oMakeMap]
  exact outOK_w (P:=P) (W:=W) [] [(k,none)] [(k,.map [] .own)] (ok_makeMap (d:=k) ho) rfl (by simp) (by simpa using hm _ hk) (ys:=[]) rfl rfl rfl
theorem RL_unzip {β:Nat->Plc} {D I:Nat->Prop} {H:Array Obj} {m:Bool}:∀ {es:List (AV×AV)} {ms:List MapEntry},RL β D I H m (es.map (·.1)) (ms.map (·.key))->es.length=ms.length:=fun h=>by
 have:=h.length;simpa using this
def lookR (z:AV) (ok:Bool):Option (Nat×AV)->AV
 | some (_,v)=>if ok then .tup [v,.val (.bool true)] else v
 | none=>if ok then .tup [z,.val (.bool false)] else z
theorem run_lookup {P:Program} {w:World} {T K V:TypeId} {d:TypeDesc} {i:TypeInfo} {z:Value} {r:Nat} {es:Array MapEntry} {c:Nat} {key:Value} {ok:Bool} {kx:AV} {res:Option (Nat×Value)}
 (hT:P.underlying T=some (.map K V)) (hK:P.underlying K=some d) (hd:kOk d kx=true) (hi:P.info? V=some i) (hz:i.zero=some z) (hb:w.heap[r]?=some (.map es c)) (hf:Instr.findNow d key es.toList 0=some res) :
 (Instr.lookup T (.map (some r)) key ok).run P w=.ok (match res with|some (_,v)=>if ok then .tuple #[v,.bool true] else v|none=>if ok then .tuple #[z,.bool false] else z) w:=by
 have h1:=run_checkKey (P:=P) (w:=w) (e:=es.isEmpty) (n:=9999) (v:=key) hK hd
 have h2:=run_findKey (P:=P) (w:=w) hK hf
 have h3:=rGetObj (P:=P) hb
 cases res with
 | none=>simp [Instr.lookup,run_underlying hT,h3,h1,h2,zeroValue,rTypeInfo hi,hz]
 | some q=>obtain ⟨q1,q2⟩:=q;simp [Instr.lookup,run_underlying hT,h3,h1,h2]
theorem ok_lookup {P:Program} {o:Oper} {t:Nat->AV} {T K V:TypeId} {d:TypeDesc} {i:TypeInfo} {z:Value} {x y:Operand} {k:Nat} {Y:AV} {es:List (AV×AV)} {ok:Bool} {res:Option (Nat×AV)}
 (ho:o.op=.lookup T x y ok) (hT:P.underlying T=some (.map K V)) (hK:P.underlying K=some d) (hd:kOk d Y=true) (hi:P.info? V=some i) (hz:i.zero=some z) (hx:evA t x=.mp k) (hy:evA t y=Y) (hf:findA es Y 0=some res) :
 LocalOK P o {rt:=rds [(x,.mp k),(y,Y)],rh:=[(k,some (.map es .own))],dst:=o.dst,v:=lookR (zeroA z) ok res} :=
 localOKn [(x,.mp k),(y,Y)] [(k,some (.map es .own))] _ (by simpa using ⟨hx,hy⟩) fun E σ a w β I r hR hh=>by
  obtain ⟨_,hv⟩:=(hR (x,.mp k) (by simp)).mp_inv
  have hY:=hR (y,Y) (by simp)
  obtain ⟨ms,c,h1,h2,h3,_⟩:=r.inv.ge k _ (hh (k,some (.map es .own)) (by simp))
  simp only at hv hY
  have hz':R β (dom σ.h) I w.heap true (zeroA z) z:=R_zeroA z
  rcases findA_now hd hY es ms.toList 0 res h2 h3 hf with ⟨rfl,h4⟩|⟨j,X,v,rfl,_,_,h5,h6,_⟩
  ·refine ⟨_,by simp only [execOp,ho,hv,Sem.run_bind,run_lookup hT hK hd hi hz h1 h4 (ok:=ok),Result.andThen_ok,Sem.run_pure];rfl,?_⟩
   cases ok
   ·exact hz'
   ·exact .tup (.cons hz' (.cons (.val _ _) (.nil _)))
  ·refine ⟨_,by simp only [execOp,ho,hv,Sem.run_bind,run_lookup hT hK hd hi hz h1 h6 (ok:=ok),Result.andThen_ok,Sem.run_pure];rfl,?_⟩
   cases ok
   ·exact h5.up
   ·exact .tup (.cons h5.up (.cons (.val _ _) (.nil _)))
def mapTy (P:Program) (T:TypeId):Option (Bool×AV) :=
 match P.underlying T with
 | some (.map K V)=>match P.underlying K,P.info? V with
  | some .string,some i=>i.zero.map fun z=>(true,zeroA z)
  | some (.int _),some i=>i.zero.map fun z=>(false,zeroA z)
  | _,_=>none
 | _=>none
def kKind:AV->Option Bool
 | .str _=>some true
 | .val (.int _ _)=>some false
 | _=>none
theorem mapTy_spec {P:Program} {T:TypeId} {s:Bool} {Z:AV} (h:mapTy P T=some (s,Z)):∃ K V d i z,P.underlying T=some (.map K V)/\P.underlying K=some d/\P.info? V=some i/\i.zero=some z/\Z=zeroA z/\∀ x,kKind x=some s->kOk d x=true:=by
 unfold mapTy at h
 split at h
 case h_2=>cases h
 rename_i K V hT
 split at h
 ·rename_i i hK hV
  cases hz:i.zero with
  | none=>rw [hz] at h;cases h
  | some z =>
   rw [hz] at h;cases h
   exact ⟨K,V,_,i,z,hT,hK,hV,hz,rfl,fun x hx=>by unfold kKind at hx;split at hx<;>first|rfl|cases hx⟩
 ·rename_i q i hK hV
  cases hz:i.zero with
  | none=>rw [hz] at h;cases h
  | some z =>
   rw [hz] at h;cases h
   exact ⟨K,V,_,i,z,hT,hK,hV,hz,rfl,fun x hx=>by unfold kKind at hx;split at hx<;>first|rfl|cases hx⟩
 ·cases h
def oLookR (x y:Operand) (dst:Option Nat) (k:Nat) (Z:AV) (ok:Bool):Option (Option (Nat×AV))->Out
 | some r=>oV [x,y] [k] dst (lookR Z ok r)
 | none=>.fail
def oLookG (x y:Operand) (dst:Option Nat) (k:Nat) (Z Y:AV) (ok:Bool):Option GE->Out
 | some (.map es .own)=>oLookR x y dst k Z ok (findA es Y 0)
 | _=>.fail
def oLookup (σ:AS) (x y:Operand) (dst:Option Nat) (ok:Bool) (Y:AV):Option (Bool×AV)->AV->Out
 | some (s,Z),.mp k=>if kKind Y=some s then oLookG x y dst k Z Y ok (hg σ.h k) else .fail
 | _,_=>.fail
theorem oLookup_ok {P:Program} {W:World} {σ:AS} {o:Oper} {T:TypeId} {x y:Operand} {ok:Bool} (ho:o.op=.lookup T x y ok):OutOK P W o σ (oLookup σ x y o.dst ok (evL σ y) (mapTy P T) (evL σ x)):=by
 unfold oLookup
 split
 ·rename_i s Z k hm hx
  split
  ·rename_i hk
   obtain ⟨K,V,d,i,z,h1,h2,h3,h4,rfl,h5⟩:=mapTy_spec hm
   unfold oLookG
   split
   ·rename_i es hb
    cases hf:findA es (evL σ y) 0 with
    | none=>simp only [oLookR];trivial
    | some r =>
     simp only [oLookR]
     exact outOK_v [(x,.mp k),(y,evL σ y)] [(k,some (.map es .own))] (ok_lookup (t:=σ.den.t) ho h1 h2 (h5 _ hk) h3 h4 (by rw [evL_den];exact hx) (evL_den σ y) hf) (by simpa using hx) (by simpa using hb) rfl rfl
   ·trivial
  ·trivial
 ·trivial
def setM (es:List (AV×AV)) (Y Z:AV):Option (Nat×AV)->List (AV×AV)
 | some (i,_)=>es.set i (Y,Z)
 | none=>es++[(Y,Z)]
theorem Turns.setObj (w:World) (r:Nat) (o:Obj):Turns w {w with heap:=w.heap.setIfInBounds r o} r :=
 ⟨fun i h=>by simp [Array.getElem?_setIfInBounds_ne (fun e:r=i=>h e.symm)],by simp,rfl,rfl,rfl⟩
theorem same_bits {n:Nat} {x k:AV} {u v:Value} {β:Nat->Plc} {D I:Nat->Prop} {H:Array Obj} {m m':Bool} (hx:R β D I H m x u) (hk:R β D I H m' k v) (h:kEq x k=some true):Instr.sameBits (n+1) v u=true:=by
 unfold kEq at h
 split at h
 ·have h1:=hx.str_inv;have h2:=hk.str_inv
  simp only [Option.some.injEq,decide_eq_true_eq] at h
  subst h1 h2 h
  simp [Instr.sameBits,MapKept.bytes_beq]
 ·have h1:=hx.val_inv;have h2:=hk.val_inv
  split at h
  ·rename_i e
   simp only [Option.some.injEq,decide_eq_true_eq] at h
   subst h1 h2 h e
   simp [Instr.sameBits]
  ·cases h
 ·cases h
def updObj (es:Array MapEntry) (c:Nat) (key val:Value):Option (Nat×Value)->Obj
 | some (i,_)=>.map (es.modify i fun e=>{e with key,val:=val}) c
 | none=>.map (es.push {key,val:=val,born:=c}) (c+1)
theorem run_mapUpdate {P:Program} {w:World} {T K V:TypeId} {d:TypeDesc} {r:Nat} {es:Array MapEntry} {c:Nat} {key val:Value} {kx:AV} {res:Option (Nat×Value)}
 (hT:P.underlying T=some (.map K V)) (hK:P.underlying K=some d) (hd:kOk d kx=true) (hb:w.heap[r]?=some (.map es c)) (hf:Instr.findNow d key es.toList 0=some res)
 (hs:∀ i v,res=some (i,v)->∃ e,es[i]?=some e/\Instr.sameBits 10000 e.key key=true) :
 (Instr.mapUpdate T (.map (some r)) key val).run P w=.ok () {w with heap:=w.heap.setIfInBounds r (updObj es c key val res)}:=by
 have h1:=run_checkKey (P:=P) (w:=w) (e:=false) (n:=9999) (v:=key) hK hd
 have h2:=run_findKey (P:=P) (w:=w) hK hf
 have h3:=rGetObj (P:=P) hb
 cases res with
 | none=>simp [Instr.mapUpdate,run_underlying hT,h3,h1,h2,rSetObj _ hb,updObj]
 | some q =>
  obtain ⟨q1,q2⟩:=q
  obtain ⟨e,he,hsb⟩:=hs q1 q2 rfl
  simp [Instr.mapUpdate,run_underlying hT,h3,h1,h2,he,Instr.keyThatStays,hsb,rSetObj _ hb,updObj]
theorem ok_mapUpdate {P:Program} {o:Oper} {t:Nat->AV} {T K V:TypeId} {d:TypeDesc} {x y z:Operand} {k:Nat} {Y Z:AV} {es:List (AV×AV)} {res:Option (Nat×AV)}
 (ho:o.op=.mapUpdate T x y z\/o.op=.insert T x y z) (hd0:o.dst=none) (hT:P.underlying T=some (.map K V)) (hK:P.underlying K=some d) (hd:kOk d Y=true) (hx:evA t x=.mp k) (hy:evA t y=Y) (hz:evA t z=Z) (hf:findA es Y 0=some res) :
 LocalOK P o {rt:=rds [(x,.mp k),(y,Y),(z,Z)],rh:=[(k,some (.map es .own))],dst:=none,v:=.top,wh:=[(k,some (.map (setM es Y Z res) .own))]}:=by
 intro E σ a w K' Q hN hr ⟨β,I,r⟩ hk
 obtain ⟨hD,hv⟩:=(R_ev r (ev_reads hx (fun p hp=>hr.1 p (by simp [rds,hp])))).mp_inv
 have hY:=R_ev r (ev_reads hy (fun p hp=>hr.1 p (by simp [rds,hp])))
 have hZ:=R_ev r (ev_reads hz (fun p hp=>hr.1 p (by simp [rds,hp])))
 have hg:=hr.2 (k,some (.map es .own)) (by simp)
 obtain ⟨ms,c,h1,h2,h3,h4,h5⟩:=r.inv.ge k _ hg
 have h2':=h2;have h3':=h3
 have hlen:es.length=ms.size:=by have:=RL_unzip h2;simpa using this
 have hnI:=h5 (by simp)
 have fin:∀ (res':Option (Nat×Value)) (ms':Array MapEntry) (c':Nat),Instr.findNow d (a.eval y) ms.toList 0=some res'->(∀ i v,res'=some (i,v)->∃ e,ms[i]?=some e/\Instr.sameBits 10000 e.key (a.eval y)=true) →
  updObj ms c (a.eval y) (a.eval z) res'=.map ms' c' →
  RL β (dom σ.h) I w.heap true ((setM es Y Z res).map (·.1)) (ms'.toList.map (·.key))->RL β (dom σ.h) I w.heap true ((setM es Y Z res).map (·.2)) (ms'.toList.map (·.val))->o.wp P a w K' Q:=by
  intro res' ms' c' q1 q2 q3 q4 q5
  have hrun:=run_mapUpdate (P:=P) (val:=a.eval z) hT hK hd h1 q1 q2
  rw [q3] at hrun
  unfold Oper.wp
  have hex:(execOp a.eval o).run P w=.ok .skip {w with heap:=w.heap.setIfInBounds (β k).b (.map ms' c')}:=by
   rcases ho with ho|ho<;>simp only [execOp,ho,hv,Sem.run_bind,hrun,Result.andThen_ok,Sem.run_pure]
  rw [hex,Oper.upon_skip,hd0]
  refine hk _ _ ⟨β,I,?_⟩
  refine r.modify (dst:=none) (v:=undef) hg (Turns.setObj w _ _) hN hnI trivial trivial (fun x=>by cases x<;>simp [Compat]) (by simp [GE.st]) (fun Kp=>?_) (fun Kp=>.top _ _)
  refine ⟨ms',c',?_,q4.keep Kp,q5.keep Kp,(fun e=>by cases e),fun _=>hnI⟩
  have hlt:(β k).b<w.heap.size:=(Array.getElem?_eq_some_iff.1 h1).1
  simp [hlt]
 rcases findA_now hd hY es ms.toList 0 res h2 h3 hf with ⟨rfl,h6⟩|⟨j,X,v,rfl,hj0,hj,h6,h7,k',e',h8,h9,h10,h11⟩
 ·refine fin none _ _ h6 (by intro i v h;cases h) rfl ?_ ?_
  ·simp only [setM,List.map_append,Array.toList_push,List.map_cons,List.map_nil]
   exact h2.up.append (.cons hY (.nil _))
  ·simp only [setM,List.map_append,Array.toList_push,List.map_cons,List.map_nil]
   exact h3.up.append (.cons hZ (.nil _))
 ·rw [Nat.sub_zero] at h8 h9
  have hjm:j<ms.size:=by have:=(List.getElem?_eq_some_iff.1 h9).1;simpa using this
  refine fin (some (j,v)) (ms.modify j fun e=>{e with key:=a.eval y,val:=a.eval z}) c h7 (fun i u h=>?_) rfl ?_ ?_
  ·cases h
   exact ⟨e',by simpa using h9,same_bits hY h11 h10⟩
  ·have:=h2.up.set j hY
   simp only [setM,List.map_set]
   have e:(ms.modify j fun e=>{e with key:=a.eval y,val:=a.eval z}).toList.map (·.key)=(ms.toList.map (·.key)).set j (a.eval y):=by
    apply List.ext_getElem?;intro q
    simp only [List.getElem?_map,Array.getElem?_toList,Array.getElem?_modify,List.getElem?_set,List.length_map,Array.length_toList]
    by_cases hq:j=q
    ·subst hq;simp [hjm]
    ·simp [hq]
   rw [e];exact this
  ·have:=h3.up.set j hZ
   simp only [setM,List.map_set]
   have e:(ms.modify j fun e=>{e with key:=a.eval y,val:=a.eval z}).toList.map (·.val)=(ms.toList.map (·.val)).set j (a.eval z):=by
    apply List.ext_getElem?;intro q
    simp only [List.getElem?_map,Array.getElem?_toList,Array.getElem?_modify,List.getElem?_set,List.length_map,Array.length_toList]
    by_cases hq:j=q
    ·subst hq;simp [hjm]
    ·simp [hq]
   rw [e];exact this
def oUpdR (x y z:Operand) (k:Nat) (es:List (AV×AV)) (Y Z:AV):Option (Option (Nat×AV))->Out
 | some r=>.eff ⟨none,.top,[(k,.map (setM es Y Z r) .own)]⟩ ⟨[x,y,z].flatMap rdN,[],[k],[k]⟩
 | none=>.fail
def oUpdG (x y z:Operand) (k:Nat) (Y Z:AV):Option GE->Out
 | some (.map es .own)=>oUpdR x y z k es Y Z (findA es Y 0)
 | _=>.fail
def oMapUpd (σ:AS) (x y z:Operand) (Y Z:AV):Option Nat->Option (Bool×AV)->AV->Out
 | none,some (s,_),.mp k=>if kKind Y=some s then oUpdG x y z k Y Z (hg σ.h k) else .fail
 | _,_,_=>.fail
theorem oMapUpd_ok {P:Program} {W:World} {σ:AS} {o:Oper} {T:TypeId} {x y z:Operand} (ho:o.op=.mapUpdate T x y z\/o.op=.insert T x y z) :
 OutOK P W o σ (oMapUpd σ x y z (evL σ y) (evL σ z) o.dst (mapTy P T) (evL σ x)):=by
 unfold oMapUpd
 split
 ·rename_i s Z k hd hm hx
  split
  ·rename_i hk
   obtain ⟨K,V,d,i,z',h1,h2,h3,h4,_,h5⟩:=mapTy_spec hm
   unfold oUpdG
   split
   ·rename_i es hb
    cases hf:findA es (evL σ y) 0 with
    | none=>simp only [oUpdR];trivial
    | some r =>
     simp only [oUpdR]
     exact outOK_w (P:=P) (W:=W) (σ:=σ) [(x,.mp k),(y,evL σ y),(z,evL σ z)] [(k,some (.map es .own))] [(k,.map (setM es (evL σ y) (evL σ z) r) .own)] (ok_mapUpdate (t:=σ.den.t) ho hd h1 h2 (h5 _ hk) (by rw [evL_den];exact hx) (evL_den σ y) (evL_den σ z) hf) hd.symm (by simpa using hx) (by simpa using hb) (ys:=[x,y,z]) (rhN:=[k]) (whN:=[k]) rfl rfl rfl
   ·trivial
  ·trivial
 ·trivial
end Go.Ac

namespace Go.Ac
open Go
def bitV (k:IntKind) (op:BinOp) (a b:Int):Option Value :=
 match op with
 | .and=>some (.int k (k.wrap (BitVec.ofInt k.bits a &&& BitVec.ofInt k.bits b).toNat))
 | .or=>some (.int k (k.wrap (BitVec.ofInt k.bits a ||| BitVec.ofInt k.bits b).toNat))
 | .xor=>some (.int k (k.wrap (BitVec.ofInt k.bits a ^^^ BitVec.ofInt k.bits b).toNat))
 | .andNot=>some (.int k (k.wrap (BitVec.ofInt k.bits a &&& ~~~(BitVec.ofInt k.bits b)).toNat))
 | _=>none
theorem bitV_run {P:Program} {w:World} {op:BinOp} {t:TypeId} {k:IntKind} {a b:Int} {r:Value} (h:bitV k op a b=some r):(binOp op t (.int k a) (.int k b)).run P w=.ok r w:=by
 cases op<;>simp only [bitV,Option.some.injEq,reduceCtorEq] at h<;>subst h<;>simp [binOp,Op.intBits]
theorem ok_bit {P:Program} {o:Oper} {t:Nat->AV} {op:BinOp} {xT yT:TypeId} {x y:Operand} {k:IntKind} {a b:Int} {r:Value} (ho:o.op=.binOp op xT x y yT) (hx:evA t x=.val (.int k a)) (hy:evA t y=.val (.int k b))
 (h:bitV k op a b=some r):LocalOK P o {rt:=rds [(x,.val (.int k a)),(y,.val (.int k b))],rh:=[],dst:=o.dst,v:=.val r} :=
 localOKn [(x,.val (.int k a)),(y,.val (.int k b))] [] _ (by simpa using ⟨hx,hy⟩) fun E σ a' w β I _ hR _=>by
  have h1:=(hR (x,.val (.int k a)) (by simp)).val_inv
  have h2:=(hR (y,.val (.int k b)) (by simp)).val_inv
  simp only at h1 h2
  exact ⟨r,by simp [execOp,ho,h1,h2,eqGuard_int,bitV_run h],.val _ _⟩
theorem ok_div {P:Program} {o:Oper} {t:Nat->AV} {op:BinOp} {xT yT:TypeId} {x y:Operand} {k:IntKind} {a b:Int} (ho:o.op=.binOp op xT x y yT) (hx:evA t x=.val (.int k a)) (hy:evA t y=.val (.int k b))
 (hb:b ≠ 0) {r:Int} (h:(op=.quo/\r=k.wrap (a.tdiv b))\/(op=.rem/\r=a.tmod b)):LocalOK P o {rt:=rds [(x,.val (.int k a)),(y,.val (.int k b))],rh:=[],dst:=o.dst,v:=.val (.int k r)} :=
 localOKn [(x,.val (.int k a)),(y,.val (.int k b))] [] _ (by simpa using ⟨hx,hy⟩) fun E σ a' w β I _ hR _=>by
  have h1:=(hR (x,.val (.int k a)) (by simp)).val_inv
  have h2:=(hR (y,.val (.int k b)) (by simp)).val_inv
  simp only at h1 h2
  refine ⟨.int k r,?_,.val _ _⟩
  rcases h with ⟨rfl,rfl⟩|⟨rfl,rfl⟩<;>simp [execOp,ho,h1,h2,eqGuard_int,binOp,Op.intDiv,hb]
theorem ok_shift {P:Program} {o:Oper} {t:Nat->AV} {op:BinOp} {xT yT:TypeId} {x y:Operand} {k j:IntKind} {a b:Int} (ho:o.op=.binOp op xT x y yT) (hx:evA t x=.val (.int k a)) (hy:evA t y=.val (.int j b))
 (hb:0<=b) {r:Int} (h:(op=.shl/\r=k.wrap (a * 2 ^ (min b.toNat k.bits)))\/(op=.shr/\r=a.fdiv (2 ^ (min b.toNat k.bits)))):LocalOK P o {rt:=rds [(x,.val (.int k a)),(y,.val (.int j b))],rh:=[],dst:=o.dst,v:=.val (.int k r)} :=
 localOKn [(x,.val (.int k a)),(y,.val (.int j b))] [] _ (by simpa using ⟨hx,hy⟩) fun E σ a' w β I _ hR _=>by
  have h1:=(hR (x,.val (.int k a)) (by simp)).val_inv
  have h2:=(hR (y,.val (.int j b)) (by simp)).val_inv
  simp only at h1 h2
  have hb':¬ b<0:=by omega
  refine ⟨.int k r,?_,.val _ _⟩
  rcases h with ⟨rfl,rfl⟩|⟨rfl,rfl⟩<;>simp [execOp,ho,h1,h2,eqGuard_int,binOp,Op.shift,hb']
def oIntX (op:BinOp) (x y:Operand) (dst:Option Nat) (k j:IntKind) (a b:Int):Out :=
 match op with
 | .quo=>if k=j then .req (b ≠ 0) (oV [x,y] [] dst (.val (.int k (k.wrap (a.tdiv b))))) else .fail
 | .rem=>if k=j then .req (b ≠ 0) (oV [x,y] [] dst (.val (.int k (a.tmod b)))) else .fail
 | .shl=>.req (0<=b) (oV [x,y] [] dst (.val (.int k (k.wrap (a * 2 ^ (min b.toNat k.bits))))))
 | .shr=>.req (0<=b) (oV [x,y] [] dst (.val (.int k (a.fdiv (2 ^ (min b.toNat k.bits))))))
 | op=>if k=j then oVv [x,y] dst (bitV k op a b) else .fail
theorem oIntX_ok {P:Program} {W:World} {σ:AS} {o:Oper} {op:BinOp} {xT yT:TypeId} {x y:Operand} {k j:IntKind} {a b:Int} (ho:o.op=.binOp op xT x y yT) (hx:evL σ x=.val (.int k a)) (hy:evL σ y=.val (.int j b)) :
 OutOK P W o σ (oIntX op x y o.dst k j a b):=by
 have hx':=hx;have hy':=hy
 rw [<-evL_den] at hx' hy'
 unfold oIntX
 split
 ·split
  ·rename_i e;subst e
   intro hb
   exact outOK_v [(x,.val (.int k a)),(y,.val (.int k b))] [] (ok_div ho hx' hy' hb (.inl ⟨rfl,rfl⟩)) (by simpa using ⟨hx,hy⟩) (by simp) rfl rfl
  ·trivial
 ·split
  ·rename_i e;subst e
   intro hb
   exact outOK_v [(x,.val (.int k a)),(y,.val (.int k b))] [] (ok_div ho hx' hy' hb (.inr ⟨rfl,rfl⟩)) (by simpa using ⟨hx,hy⟩) (by simp) rfl rfl
  ·trivial
 ·intro hb
  exact outOK_v [(x,.val (.int k a)),(y,.val (.int j b))] [] (ok_shift ho hx' hy' hb (.inl ⟨rfl,rfl⟩)) (by simpa using ⟨hx,hy⟩) (by simp) rfl rfl
 ·intro hb
  exact outOK_v [(x,.val (.int k a)),(y,.val (.int j b))] [] (ok_shift ho hx' hy' hb (.inr ⟨rfl,rfl⟩)) (by simpa using ⟨hx,hy⟩) (by simp) rfl rfl
 ·split
  ·rename_i e;subst e
   cases h:bitV k op a b with
   | none=>simp only [oVv];trivial
   | some r =>
    simp only [oVv]
    exact outOK_v [(x,.val (.int k a)),(y,.val (.int k b))] [] (ok_bit ho hx' hy' h) (by simpa using ⟨hx,hy⟩) (by simp) rfl rfl
  ·trivial
def nkD:TypeDesc->Nat
 | .pointer _=>1
 | .slice _=>2
 | .map _ _=>3
 | .func _ _ _=>4
 | .interface _=>5
 | _=>0
def nk (P:Program) (T:TypeId):Nat:=match P.underlying T with|some d=>nkD d|none=>0
def isNil:Nat->AV->Option Bool
 | 1,.val (.pointer none)=>some true
 | 1,.gp _ _=>some false
 | 1,.ge _ _ _=>some false
 | 1,.ip _ _=>some false
 | 2,.val (.slice none 0 0)=>some true
 | 2,.gs _ _ (_+1)=>some false
 | 2,.sl _ (_::_) _=>some false
 | 2,.val (.slice (some _) _ _)=>some false
 | 3,.val (.map none)=>some true
 | 3,.mp _=>some false
 | 4,.val .nilFunc=>some true
 | 4,.fn _ _ _=>some false
 | 5,.ifc _ _=>some false
 | _,_=>none
def nilOf:Nat->Option Value
 | 1=>some (.pointer none)
 | 2=>some (.slice none 0 0)
 | 3=>some (.map none)
 | 4=>some .nilFunc
 | 5=>some .nilIface
 | _=>none
def nilOpd (n:Nat):AV->Bool
 | .val (.pointer none)=>n == 1
 | .val (.slice none 0 0)=>n == 2
 | .val (.map none)=>n == 3
 | .val .nilFunc=>n == 4
 | .val .nilIface=>n == 5
 | _=>false
theorem nilOpd_spec {n:Nat} {A:AV} (h:nilOpd n A=true):∃ v,nilOf n=some v/\A=.val v:=by
 unfold nilOpd at h
 split at h<;>first|(have e:=of_decide_eq_true h;subst e;exact ⟨_,rfl,rfl⟩)|(simp only [beq_iff_eq] at h;subst h;exact ⟨_,rfl,rfl⟩)|cases h
def NonNil:Nat->Value->Prop
 | 1,v=>∃ a,v=.pointer (some a)
 | 2,v=>∃ a l c,v=.slice (some a) l c
 | 3,v=>∃ r,v=.map (some r)
 | 4,v=>∃ f xs ys,v=.func f xs ys
 | 5,v=>∃ t u,v=.iface t u
 | _,_=>False
theorem nil_form {β:Nat->Plc} {D I:Nat->Prop} {H:Array Obj} {m:Bool} {n:Nat} {X:AV} {v nv:Value} {b:Bool} (hR:R β D I H m X v) (hn:nilOf n=some nv) (hi:isNil n X=some b):(b=true/\v=nv)\/(b=false/\NonNil n v):=by
 unfold isNil at hi
 split at hi<;>first|(cases hi;done)|skip
 all_goals
  simp only [Option.some.injEq] at hi
  subst hi
  simp only [nilOf,Option.some.injEq] at hn
  subst hn
 case h_6 =>
  cases hR with
  | gs h1 h2 h3 h4 =>
   right;refine ⟨rfl,?_⟩
   rcases h4 with ⟨h4,_⟩|⟨h4,_⟩
   ·omega
   ·subst h4;exact ⟨_,_,_,rfl⟩
 all_goals
  cases hR
  first
   | exact .inl ⟨rfl,rfl⟩
   | exact .inr ⟨rfl,_,rfl⟩
   | exact .inr ⟨rfl,_,_,rfl⟩
   | exact .inr ⟨rfl,_,_,_,rfl⟩
theorem equalIn_nil {P:Program} {w:World} {k:Nat} {T:TypeId} {d:TypeDesc} {v nv:Value} {b:Bool} (hT:P.underlying T=some d)
 (hn:nilOf (nkD d)=some nv) (hi:(b=true/\v=nv)\/(b=false/\NonNil (nkD d) v)):(Op.equalIn (k+1) T v nv).run P w=.ok b w/\(Op.equalIn (k+1) T nv v).run P w=.ok b w:=by
 rw [Op.equalIn,Op.equalIn]
 cases d<;>simp only [nkD] at hn hi<;>simp only [nilOf,Option.some.injEq,reduceCtorEq] at hn
 all_goals
  subst hn
  rcases hi with ⟨rfl,rfl⟩|⟨rfl,hi⟩
  ·constructor<;>simp only [Sem.run_bind,run_underlying hT,Result.andThen_ok,Sem.run_pure,Option.isNone_none]
  ·simp only [NonNil] at hi
   first
    | (obtain ⟨a,rfl⟩:=hi;constructor<;>simp only [Sem.run_bind,run_underlying hT,Result.andThen_ok,Sem.run_pure,Option.isNone_some])
    | (obtain ⟨a,c,rfl⟩:=hi;constructor<;>simp only [Sem.run_bind,run_underlying hT,Result.andThen_ok,Sem.run_pure])
    | (obtain ⟨a,l,c,rfl⟩:=hi;constructor<;>simp only [Sem.run_bind,run_underlying hT,Result.andThen_ok,Sem.run_pure,Option.isNone_some])
theorem binOp_nil {P:Program} {w:World} {T:TypeId} {d:TypeDesc} {v n:Value} {b:Bool} (hT:P.underlying T=some d)
 (hn:nilOf (nkD d)=some n) (hi:(b=true/\v=n)\/(b=false/\NonNil (nkD d) v)) (op:BinOp) (hop:op=.eql\/op=.neq) :
 (binOp op T v n).run P w=.ok (.bool (if op=.eql then b else !b)) w/\(binOp op T n v).run P w=.ok (.bool (if op=.eql then b else !b)) w ∧
 (∀ x y,y=.const n->(eqGuard op T x y v n).run P w=.ok () w)/\(∀ x y,x=.const n->(eqGuard op T x y n v).run P w=.ok () w):=by
 obtain ⟨h1,h2⟩:=equalIn_nil (P:=P) (w:=w) (k:=9999) hT hn hi
 have h1':(Op.equal T v n).run P w=.ok b w:=h1
 have h2':(Op.equal T n v).run P w=.ok b w:=h2
 clear h1 h2
 cases d<;>simp only [nkD] at hn hi<;>simp only [nilOf,Option.some.injEq,reduceCtorEq] at hn
 all_goals
  subst hn
  rcases hi with ⟨rfl,rfl⟩|⟨rfl,hi⟩
  ·refine ⟨?_,?_,?_,?_⟩
   ·rcases hop with rfl|rfl<;>simp [binOp,h1']
   ·rcases hop with rfl|rfl<;>simp [binOp,h2']
   ·rintro x y rfl;rcases hop with rfl|rfl<;>simp [eqGuard]
   ·rintro x y rfl;rcases hop with rfl|rfl<;>simp [eqGuard]
  ·simp only [NonNil] at hi
   first
    | obtain ⟨a,rfl⟩:=hi
    | obtain ⟨a,c,rfl⟩:=hi
    | obtain ⟨a,l,c,rfl⟩:=hi
   refine ⟨?_,?_,?_,?_⟩
   ·rcases hop with rfl|rfl<;>simp [binOp,h1']
   ·rcases hop with rfl|rfl<;>simp [binOp,h2']
   ·rintro x y rfl;rcases hop with rfl|rfl<;>simp [eqGuard]
   ·rintro x y rfl;rcases hop with rfl|rfl<;>simp [eqGuard]
def constNil (n:Nat):Operand->Bool
 | .const v=>nilOpd n (.val v)
 | _=>false
theorem constNil_spec {n:Nat} {x:Operand} (h:constNil n x=true):∃ v,nilOf n=some v/\x=.const v:=by
 cases x with
 | const v=>obtain ⟨u,h1,h2⟩:=nilOpd_spec h;cases h2;exact ⟨v,h1,rfl⟩
 | _=>cases h
def oNilR (op:BinOp) (x y:Operand) (dst:Option Nat):Option Bool->Out
 | some b=>match op with
  | .eql=>oV [x,y] [] dst (.val (.bool b))
  | .neq=>oV [x,y] [] dst (.val (.bool (!b)))
  | _=>.fail
 | none=>.fail
def oNil (n:Nat) (op:BinOp) (x y:Operand) (dst:Option Nat) (X Y:AV):Out :=
 if constNil n y=true then oNilR op x y dst (isNil n X) else if constNil n x=true then oNilR op x y dst (isNil n Y) else .fail
theorem oNil_ok {P:Program} {W:World} {σ:AS} {o:Oper} {op:BinOp} {xT yT:TypeId} {x y:Operand} (ho:o.op=.binOp op xT x y yT):OutOK P W o σ (oNil (nk P xT) op x y o.dst (evL σ x) (evL σ y)):=by
 unfold oNil nk
 cases hT:P.underlying xT with
 | none=>simp [constNil,nilOpd];split<;>(try split)<;>simp [isNil,oNilR]<;>trivial
 | some d =>
  simp only
  split
  ·rename_i hc
   obtain ⟨n,hn,rfl⟩:=constNil_spec hc
   cases hi:isNil (nkD d) (evL σ x) with
   | none=>simp only [oNilR];trivial
   | some b =>
    have key:∀ op',op'=op->(op'=.eql\/op'=.neq)->OutOK P W o σ (oV [x,.const n] [] o.dst (.val (.bool (if op'=.eql then b else !b)))):=by
     rintro op' rfl hop
     refine outOK_v (prs σ [x,.const n]) [] (localOKn (t:=σ.den.t) _ [] _ (prs_den σ _) fun E τ a w β I r hR _=>?_) (prs_ev σ _) (by simp) (prs_fst σ _) rfl
     have h0:=hR _ (prs_mem (σ:=σ) (l:=[x,.const n]) (x:=x) (by simp))
     obtain ⟨h1,_,h3,_⟩:=binOp_nil (P:=P) (w:=w) hT hn (nil_form h0 hn hi) op' hop
     exact ⟨_,by simp only [execOp,ho,Sem.run_bind,show a.eval (.const n)=n from rfl,h3 x (.const n) rfl,Result.andThen_ok,h1,Sem.run_pure],.val _ _⟩
    cases op<;>simp only [oNilR]<;>try trivial
    ·exact key .eql rfl (.inl rfl)
    ·exact key .neq rfl (.inr rfl)
  ·split
   ·rename_i hc
    obtain ⟨n,hn,rfl⟩:=constNil_spec hc
    cases hi:isNil (nkD d) (evL σ y) with
    | none=>simp only [oNilR];trivial
    | some b =>
     have key:∀ op',op'=op->(op'=.eql\/op'=.neq)->OutOK P W o σ (oV [.const n,y] [] o.dst (.val (.bool (if op'=.eql then b else !b)))):=by
      rintro op' rfl hop
      refine outOK_v (prs σ [.const n,y]) [] (localOKn (t:=σ.den.t) _ [] _ (prs_den σ _) fun E τ a w β I r hR _=>?_) (prs_ev σ _) (by simp) (prs_fst σ _) rfl
      have h0:=hR _ (prs_mem (σ:=σ) (l:=[.const n,y]) (x:=y) (by simp))
      obtain ⟨_,h1,_,h3⟩:=binOp_nil (P:=P) (w:=w) hT hn (nil_form h0 hn hi) op' hop
      exact ⟨_,by simp only [execOp,ho,Sem.run_bind,show a.eval (.const n)=n from rfl,h3 (.const n) y rfl,Result.andThen_ok,h1,Sem.run_pure],.val _ _⟩
     cases op<;>simp only [oNilR]<;>try trivial
     ·exact key .eql rfl (.inl rfl)
     ·exact key .neq rfl (.inr rfl)
   ·trivial
def oNilCheck (x:Operand) (dst:Option Nat):AV->Out
 | .gp k c=>oV [x] [] dst (.gp k c)
 | .ge k i c=>oV [x] [] dst (.ge k i c)
 | .ip el c=>oV [x] [] dst (.ip el c)
 | _=>.fail
theorem oNilCheck_ok {P:Program} {W:World} {σ:AS} {o:Oper} {x:Operand} (ho:o.op=.nilCheck x):OutOK P W o σ (oNilCheck x o.dst (evL σ x)):=by
 have key:(∀ E τ a w β I,@RepAt E τ a w β I->R β (dom τ.h) I w.heap true (evL σ x) (a.eval x)->∃ ad,a.eval x=.pointer (some ad))->OutOK P W o σ (oV [x] [] o.dst (evL σ x)):=by
  intro h
  refine outOK_v (prs σ [x]) [] (localOKn (t:=σ.den.t) _ [] _ (prs_den σ _) fun E τ a w β I r hR _=>?_) (prs_ev σ _) (by simp) (prs_fst σ _) rfl
  have h0:=hR _ (prs_mem (σ:=σ) (l:=[x]) (x:=x) (by simp))
  obtain ⟨ad,h1⟩:=h E τ a w β I r h0
  exact ⟨a.eval x,by simp [execOp,ho,h1],h0⟩
 cases hx:evL σ x<;>simp only [oNilCheck]<;>try trivial
 all_goals
  rw [<-hx]
  refine key fun E τ a w β I r h=>?_
  rw [hx] at h
  generalize hv:a.eval x=v at h
  cases h
  exact ⟨_,rfl⟩
def cmpName:String:= "internal/bytealg.abigen_runtime_cmpstring"
def cmpB (a b:List UInt8):Int:=Extern.BytealgCompare.cmp ⟨a.toArray⟩ ⟨b.toArray⟩
def extF (P:Program) (f:FuncId):Bool :=
 match P.funcs[f]? with
 | some fn=>fn.body.isNone && decide (fn.name=cmpName) && decide (fn.origin= "")
 | none=>false
theorem next_cmp:Extern.allNextRows.lookup cmpName=none:=kr
theorem next_none:Extern.allNextRows.lookup ""=none:=kr
theorem generic_cmp:Extern.allGenericRows.lookup cmpName=none:=kr
theorem typed_cmp:Extern.allTypedRows.lookup cmpName=none:=kr
theorem rows_cmp:Extern.allRows.lookup cmpName=some Extern.BytealgCompare.compare:=kr
theorem run_cmp {P:Program} {w:World} {f:FuncId} {a b:List UInt8} (h:extF P f=true):(callFunc f #[.string ⟨a.toArray⟩,.string ⟨b.toArray⟩]).run P w=.ok (.value (.int .i64 (cmpB a b))) w:=by
 unfold extF at h
 split at h
 case h_2=>cases h
 rename_i fn hf
 simp only [Bool.and_eq_true,decide_eq_true_eq,Option.isNone_iff_eq_none] at h
 obtain ⟨⟨h1,h2⟩,h3⟩:=h
 have e1:Extern.findNext fn=none:=by simp [Extern.findNext,h2,h3,next_cmp,next_none]
 have e2:Extern.find fn=some Extern.BytealgCompare.compare:=by simp [Extern.find,h2,h3,generic_cmp,typed_cmp,rows_cmp]
 have h4:¬ fn.name= "runtime.NumGoroutine":=by rw [h2];decide
 have hc:(Extern.BytealgCompare.compare #[.string ⟨a.toArray⟩,.string ⟨b.toArray⟩]).run P w=.ok (.int .i64 (cmpB a b)) w:=by
  have:Extern.BytealgCompare.compare #[.string ⟨a.toArray⟩,.string ⟨b.toArray⟩]=(do pure (goInt (Extern.BytealgCompare.cmp (<-Extern.Bytes.bytesOf (.string ⟨a.toArray⟩)) (<-Extern.Bytes.bytesOf (.string ⟨b.toArray⟩))))):=rfl
  rw [this]
  simp [Extern.Bytes.bytesOf,goInt,cmpB]
 have hm:(mark (.extern f)).run P w=.ok () w:=rfl
 simp [callFunc,hf,h1,h4,e1,e2,hc,hm]
def oExt (xs:List Operand) (dst:Option Nat):List AV->Out
 | [.str a,.str b]=>oV xs [] dst (.val (.int .i64 (cmpB a b)))
 | _=>.fail
theorem oExt_ok {P:Program} {W:World} {σ:AS} {o:Oper} {f:FuncId} {xs:Array Operand} {ts:Array TypeId} (ho:o.op=.call {callee:=.value (.func f),args:=xs,argTypes:=ts}) (hf:extF P f=true) :
 OutOK P W o σ (oExt xs.toList o.dst (xs.toList.map (evL σ))):=by
 cases hx:xs.toList.map (evL σ) with
 | nil=>simp only [oExt];trivial
 | cons A l =>
  cases l with
  | nil=>cases A<;>simp only [oExt]<;>trivial
  | cons B l =>
   cases l with
   | cons C l=>cases A<;>cases B<;>simp only [oExt]<;>trivial
   | nil =>
    cases A<;>cases B<;>simp only [oExt]<;>try trivial
    rename_i a b
    refine outOK_v (prs σ xs.toList) [] (localOKn (t:=σ.den.t) _ [] _ (prs_den σ _) fun E τ a' w β I r hR _=>?_) (prs_ev σ _) (by simp) (prs_fst σ _) rfl
    have h0:=RL_ops (σ:=σ) (a:=a') xs.toList fun x hx=>hR _ (prs_mem hx)
    rw [hx] at h0
    generalize hv:xs.toList.map a'.eval=vs at h0
    match vs,h0 with
    | [u,v],.cons h1 (.cons h2 (.nil _)) =>
     have e1:=h1.str_inv;have e2:=h2.str_inv
     subst e1 e2
     have e3:xs.map a'.eval=#[.string ⟨a.toArray⟩,.string ⟨b.toArray⟩]:=by
      rw [<-Array.toArray_toList (xs:=xs.map a'.eval),Array.toList_map,hv]
     refine ⟨_,?_,.val _ _⟩
     simp only [execOp,ho,resolve,Sem.run_bind,Act.eval,Deferred.ofValue,Sem.run_pure,Result.andThen_ok,invoke]
     have e4:#[]++xs.map a'.eval++#[]=#[.string ⟨a.toArray⟩,.string ⟨b.toArray⟩]:=by rw [e3];rfl
     rw [e4]
     exact run_cmp hf
def emptyS (P:Program) (T:TypeId):Bool :=
 match P.underlying T,P.info? T with
 | some (.struct fs),some i=>fs.toList.isEmpty && (match i.zero with|some (.agg cs)=>cs.toList.isEmpty|_=>false)
 | _,_=>false
def oBuild0 (e:Bool) (ps:List (Nat×Operand)) (dst:Option Nat):Out :=
 match ps with
 | []=>if e=true then oV [] [] dst (.agg []) else .fail
 | _=>.fail
theorem oBuild0_ok {P:Program} {W:World} {σ:AS} {o:Oper} {T:TypeId} {ps:Array (Nat×Operand)} (ho:o.op=.build T ps):OutOK P W o σ (oBuild0 (emptyS P T) ps.toList o.dst):=by
 unfold oBuild0
 split
 ·rename_i hps
  split
  ·rename_i he
   have hps':ps=#[]:=by rw [<-Array.toArray_toList (xs:=ps),hps]
   subst hps'
   unfold emptyS at he
   split at he
   ·rename_i fs i hT hi
    simp only [Bool.and_eq_true,List.isEmpty_iff] at he
    obtain ⟨h1,h2⟩:=he
    have hfs:fs=#[]:=by rw [<-Array.toArray_toList (xs:=fs),h1]
    subst hfs
    split at h2
    ·rename_i cs hz
     have h2':cs.toList=[]:=by simpa using h2
     have hcs:cs=#[]:=by rw [<-Array.toArray_toList (xs:=cs),h2']
     subst hcs
     refine outOK_v [] [] (localOKn (t:=σ.den.t) _ [] _ (by simp) fun E τ a w β I r hR _=>⟨.agg #[],?_,.agg (.nil _)⟩) (by simp) (by simp) rfl rfl
     simp [execOp,ho,Instr.build,zeroValue,rTypeInfo hi,hz,run_underlying hT,Value.cells,Instr.fill]
    ·cases h2
   ·cases he
  ·trivial
 ·trivial
end Go.Ac

namespace Go.Ac
open Go
def oTA2 (Ts:Ty) (t T:TypeId) (x:Operand) (ok:Bool) (dst:Option Nat) (a:AV):Out :=
 if Ts.ok=true/\Ts.ifc=false then
  if t=T then oV [x] [] dst (cond ok (.tup [a,.val (.bool true)]) a)
  else if ok=true/\Ts.okz=true then oV [x] [] dst (.tup [Ts.z,.val (.bool false)]) else .fail
 else .fail
def oTA (Ts:Ty) (T:TypeId) (x:Operand) (ok:Bool) (dst:Option Nat):AV->Out
 | .ifc t a=>oTA2 Ts t T x ok dst a
 | .val .nilIface=>if Ts.ok=true/\Ts.ifc=false/\ok=true/\Ts.okz=true then oV [x] [] dst (.tup [Ts.z,.val (.bool false)]) else .fail
 | _=>.fail
theorem ta_same {P:Program} {w:World} {T S:TypeId} {v:Value} {ok:Bool} (hT:(ty P T).ok=true) (hi:(ty P T).ifc=false) :
 (Instr.typeAssert (.iface T v) S T ok).run P w=.ok (if ok=true then .tuple #[v,.bool true] else v) w:=by
 obtain ⟨d,i,hd,hi',he⟩:=ty_ok hT
 rw [he] at hi
 cases d<;>first
  | (simp [Instr.typeAssert,run_underlying hd];done)
  | (simp [tyD] at hi)
theorem ta_other {P:Program} {w:World} {T S t:TypeId} {v:Value} (hT:(ty P T).ok=true) (hi:(ty P T).ifc=false) (ht:t ≠ T) {i:TypeInfo} {z:Value} (hz:P.info? T=some i) (hz':i.zero=some z) :
 (Instr.typeAssert (.iface t v) S T true).run P w=.ok (.tuple #[z,.bool false]) w:=by
 obtain ⟨d,i',hd,hi',he⟩:=ty_ok hT
 rw [he] at hi
 cases d<;>first
  | (simp [Instr.typeAssert,run_underlying hd,ht,zeroValue,rTypeInfo hz,hz'];done)
  | (simp [tyD] at hi)
theorem ta_nil {P:Program} {w:World} {T S:TypeId} (hT:(ty P T).ok=true) (hi:(ty P T).ifc=false) {i:TypeInfo} {z:Value} (hz:P.info? T=some i) (hz':i.zero=some z) :
 (Instr.typeAssert .nilIface S T true).run P w=.ok (.tuple #[z,.bool false]) w:=by
 obtain ⟨d,i',hd,hi',he⟩:=ty_ok hT
 rw [he] at hi
 cases d<;>first
  | (simp [Instr.typeAssert,run_underlying hd,zeroValue,rTypeInfo hz,hz'];done)
  | (simp [tyD] at hi)
theorem R.ifc_inv {β:Nat->Plc} {D I:Nat->Prop} {H:Array Obj} {m:Bool} {t:TypeId} {a:AV} {v:Value} (h:R β D I H m (.ifc t a) v):∃ u,v=.iface t u/\R β D I H m a u:=by
 cases h with
 | ifc h=>exact ⟨_,rfl,h⟩
theorem oTA_ok {P:Program} {W:World} {σ:AS} {o:Oper} {x:Operand} {S T:TypeId} {ok:Bool} (ho:o.op=.typeAssert x S T ok):OutOK P W o σ (oTA (ty P T) T x ok o.dst (evL σ x)):=by
 cases hx:evL σ x<;>simp only [oTA]<;>try trivial
 case ifc t a =>
  unfold oTA2
  split
  case isFalse=>trivial
  rename_i hc
  split
  ·rename_i e
   subst e
   refine outOK_v [(x,evL σ x)] [] (localOKn (t:=σ.den.t) _ [] _ (by simpa using evL_den σ x) fun E τ a' w β I r hR _=>?_) (by simp) (by simp) rfl rfl
   have h0:=hR (x,evL σ x) (by simp)
   simp only [hx] at h0
   obtain ⟨u,hu,hr⟩:=h0.ifc_inv
   refine ⟨_,by simp only [execOp,ho,hu];rw [Sem.run_bind,ta_same hc.1 hc.2];rfl,?_⟩
   cases ok with
   | true=>exact .tup (.cons hr (.cons (.val _ _) (.nil _)))
   | false=>exact hr
  ·rename_i hne
   split
   ·rename_i h2
    obtain ⟨rfl,h3⟩:=h2
    obtain ⟨i,z,h4,h5,h6,h7,h8,h9⟩:=ty_zero h3
    rw [h8]
    refine outOK_v [(x,evL σ x)] [] (localOKn (t:=σ.den.t) _ [] _ (by simpa using evL_den σ x) fun E τ a' w β I r hR _=>?_) (by simp) (by simp) rfl rfl
    have h0:=hR (x,evL σ x) (by simp)
    simp only [hx] at h0
    obtain ⟨u,hu,hr⟩:=h0.ifc_inv
    exact ⟨_,by simp only [execOp,ho,hu];rw [Sem.run_bind,ta_other hc.1 hc.2 hne h4 h5];rfl,.tup (.cons (R_zeroA z) (.cons (.val _ _) (.nil _)))⟩
   ·trivial
 case val v =>
  split
  ·rename_i hv;cases hv
  ·rename_i hv
   cases hv
   split
   ·rename_i hc
    obtain ⟨c1,c2,rfl,c4⟩:=hc
    obtain ⟨i,z,h4,h5,h6,h7,h8,h9⟩:=ty_zero c4
    rw [h8]
    refine outOK_v [(x,evL σ x)] [] (localOKn (t:=σ.den.t) _ [] _ (by simpa using evL_den σ x) fun E τ a' w β I r hR _=>?_) (by simp) (by simp) rfl rfl
    have h0:=hR (x,evL σ x) (by simp)
    simp only [hx] at h0
    have hu:=h0.val_inv
    exact ⟨_,by simp only [execOp,ho,hu];rw [Sem.run_bind,ta_nil c1 c2 h4 h5];rfl,.tup (.cons (R_zeroA z) (.cons (.val _ _) (.nil _)))⟩
   ·trivial
  ·trivial
def cntName:String:= "internal/bytealg.CountString"
def cntB (a:List UInt8) (c:UInt8):Int:=(⟨a.toArray⟩:ByteArray).foldl (fun n x=>if x == c then n+1 else n) ((0:Nat):Int)
def extC (P:Program) (f:FuncId):Bool :=
 match P.funcs[f]? with
 | some fn=>fn.body.isNone && decide (fn.name=cntName) && decide (fn.origin= "")
 | none=>false
theorem next_cnt:Extern.allNextRows.lookup cntName=none:=kr
theorem generic_cnt:Extern.allGenericRows.lookup cntName=none:=kr
theorem typed_cnt:Extern.allTypedRows.lookup cntName=none:=kr
theorem rows_cnt:Extern.allRows.lookup cntName=some Extern.BytealgCount.count:=kr
theorem run_cnt {P:Program} {w:World} {f:FuncId} {a:List UInt8} {c:Int} (h:extC P f=true):(callFunc f #[.string ⟨a.toArray⟩,.int .u8 c]).run P w=.ok (.value (.int .i64 (cntB a (UInt8.ofNat c.toNat)))) w:=by
 unfold extC at h
 split at h
 case h_2=>cases h
 rename_i fn hf
 simp only [Bool.and_eq_true,decide_eq_true_eq,Option.isNone_iff_eq_none] at h
 obtain ⟨⟨h1,h2⟩,h3⟩:=h
 have e1:Extern.findNext fn=none:=by simp [Extern.findNext,h2,h3,next_cnt,next_none]
 have e2:Extern.find fn=some Extern.BytealgCount.count:=by simp [Extern.find,h2,h3,generic_cnt,typed_cnt,rows_cnt]
 have h4:¬ fn.name= "runtime.NumGoroutine":=by rw [h2];decide
 have hc:(Extern.BytealgCount.count #[.string ⟨a.toArray⟩,.int .u8 c]).run P w=.ok (.int .i64 (cntB a (UInt8.ofNat c.toNat))) w:=by
  have:Extern.BytealgCount.count #[.string ⟨a.toArray⟩,.int .u8 c]=(do let b <-Extern.Bytes.bytesOf (.string ⟨a.toArray⟩);let c <-Extern.Bytes.asByte (.int .u8 c);pure (goInt (b.foldl (fun n x=>if x == c then n+1 else n) (0:Nat)))):=rfl
  rw [this]
  simp [Extern.Bytes.bytesOf,Extern.Bytes.asByte,goInt,cntB]
 have hm:(mark (.extern f)).run P w=.ok () w:=rfl
 simp [callFunc,hf,h1,h4,e1,e2,hc,hm]
def oCnt (xs:List Operand) (dst:Option Nat):List AV->Out
 | [.str a,.val (.int .u8 c)]=>oV xs [] dst (.val (.int .i64 (cntB a (UInt8.ofNat c.toNat))))
 | _=>.fail
theorem oCnt_ok {P:Program} {W:World} {σ:AS} {o:Oper} {f:FuncId} {xs:Array Operand} {ts:Array TypeId} (ho:o.op=.call {callee:=.value (.func f),args:=xs,argTypes:=ts}) (hf:extC P f=true) :
 OutOK P W o σ (oCnt xs.toList o.dst (xs.toList.map (evL σ))):=by
 generalize hx:xs.toList.map (evL σ)=As
 unfold oCnt
 split
 case h_2=>trivial
 rename_i a c
 refine outOK_v (prs σ xs.toList) [] (localOKn (t:=σ.den.t) _ [] _ (prs_den σ _) fun E τ a' w β I r hR _=>?_) (prs_ev σ _) (by simp) (prs_fst σ _) rfl
 have h0:=RL_ops (σ:=σ) (a:=a') xs.toList fun x hx=>hR _ (prs_mem hx)
 rw [hx] at h0
 generalize hv:xs.toList.map a'.eval=vs at h0
 match vs,h0 with
 | [u,v],.cons h1 (.cons h2 (.nil _)) =>
  have e1:=h1.str_inv;have e2:=h2.val_inv
  subst e1 e2
  have e3:xs.map a'.eval=#[.string ⟨a.toArray⟩,.int .u8 c]:=by
   rw [<-Array.toArray_toList (xs:=xs.map a'.eval),Array.toList_map,hv]
  refine ⟨_,?_,.val _ _⟩
  simp only [execOp,ho,resolve,Sem.run_bind,Act.eval,Deferred.ofValue,Sem.run_pure,Result.andThen_ok,invoke]
  have e4:#[]++xs.map a'.eval++#[]=#[.string ⟨a.toArray⟩,.int .u8 c]:=by rw [e3];rfl
  rw [e4]
  exact run_cnt hf
def ixbName:String:= "internal/bytealg.IndexByteString"
def ixbA (b:ByteArray) (c:UInt8):Int :=
 match (List.range b.size).find? fun i=>b[i]! == c with
 | some i=>i
 | none=>-1
def ixbB (a:List UInt8) (c:UInt8):Int:=ixbA ⟨a.toArray⟩ c
def extI (P:Program) (f:FuncId):Bool :=
 match P.funcs[f]? with
 | some fn=>fn.body.isNone && decide (fn.name=ixbName) && decide (fn.origin= "")
 | none=>false
theorem next_ixb:Extern.allNextRows.lookup ixbName=none:=kr
theorem generic_ixb:Extern.allGenericRows.lookup ixbName=none:=kr
theorem typed_ixb:Extern.allTypedRows.lookup ixbName=none:=kr
theorem rows_ixb:Extern.allRows.lookup ixbName=some Extern.BytealgIndexByte.indexByte:=kr
theorem run_ixb {P:Program} {w:World} {f:FuncId} {a:List UInt8} {c:Int} (h:extI P f=true):(callFunc f #[.string ⟨a.toArray⟩,.int .u8 c]).run P w=.ok (.value (.int .i64 (ixbB a (UInt8.ofNat c.toNat)))) w:=by
 unfold extI at h
 split at h
 case h_2=>cases h
 rename_i fn hf
 simp only [Bool.and_eq_true,decide_eq_true_eq,Option.isNone_iff_eq_none] at h
 obtain ⟨⟨h1,h2⟩,h3⟩:=h
 have e1:Extern.findNext fn=none:=by simp [Extern.findNext,h2,h3,next_ixb,next_none]
 have e2:Extern.find fn=some Extern.BytealgIndexByte.indexByte:=by simp [Extern.find,h2,h3,generic_ixb,typed_ixb,rows_ixb]
 have h4:¬ fn.name= "runtime.NumGoroutine":=by rw [h2];decide
 have hc:(Extern.BytealgIndexByte.indexByte #[.string ⟨a.toArray⟩,.int .u8 c]).run P w=.ok (.int .i64 (ixbB a (UInt8.ofNat c.toNat))) w:=by
  have:Extern.BytealgIndexByte.indexByte #[.string ⟨a.toArray⟩,.int .u8 c]=(do let b <-Extern.Bytes.bytesOf (.string ⟨a.toArray⟩);let c <-Extern.Bytes.asByte (.int .u8 c);(match (List.range b.size).find? fun i=>b[i]! == c with|some i=>pure (goInt i)|none=>pure (goInt (-1)))):=rfl
  rw [this]
  simp only [Extern.Bytes.bytesOf,Extern.Bytes.asByte,Sem.run_bind,Sem.run_pure,Result.andThen_ok,ixbB,ixbA]
  have e0:c.toNat.toUInt8=UInt8.ofNat c.toNat:=rfl
  rw [e0]
  cases (List.range (ByteArray.mk a.toArray).size).find? fun i=>(ByteArray.mk a.toArray)[i]! == UInt8.ofNat c.toNat<;>rfl
 have hm:(mark (.extern f)).run P w=.ok () w:=rfl
 simp [callFunc,hf,h1,h4,e1,e2,hc,hm]
def oIxb (xs:List Operand) (dst:Option Nat):List AV->Out
 | [.str a,.val (.int .u8 c)]=>oV xs [] dst (.val (.int .i64 (ixbB a (UInt8.ofNat c.toNat))))
 | _=>.fail
theorem oIxb_ok {P:Program} {W:World} {σ:AS} {o:Oper} {f:FuncId} {xs:Array Operand} {ts:Array TypeId} (ho:o.op=.call {callee:=.value (.func f),args:=xs,argTypes:=ts}) (hf:extI P f=true) :
 OutOK P W o σ (oIxb xs.toList o.dst (xs.toList.map (evL σ))):=by
 generalize hx:xs.toList.map (evL σ)=As
 unfold oIxb
 split
 case h_2=>trivial
 rename_i a c
 refine outOK_v (prs σ xs.toList) [] (localOKn (t:=σ.den.t) _ [] _ (prs_den σ _) fun E τ a' w β I r hR _=>?_) (prs_ev σ _) (by simp) (prs_fst σ _) rfl
 have h0:=RL_ops (σ:=σ) (a:=a') xs.toList fun x hx=>hR _ (prs_mem hx)
 rw [hx] at h0
 generalize hv:xs.toList.map a'.eval=vs at h0
 match vs,h0 with
 | [u,v],.cons h1 (.cons h2 (.nil _)) =>
  have e1:=h1.str_inv;have e2:=h2.val_inv
  subst e1 e2
  have e3:xs.map a'.eval=#[.string ⟨a.toArray⟩,.int .u8 c]:=by
   rw [<-Array.toArray_toList (xs:=xs.map a'.eval),Array.toList_map,hv]
  refine ⟨_,?_,.val _ _⟩
  simp only [execOp,ho,resolve,Sem.run_bind,Act.eval,Deferred.ofValue,Sem.run_pure,Result.andThen_ok,invoke]
  have e4:#[]++xs.map a'.eval++#[]=#[.string ⟨a.toArray⟩,.int .u8 c]:=by rw [e3];rfl
  rw [e4]
  exact run_ixb hf
end Go.Ac

namespace Go.Ac
open Go
def isMapT (P:Program) (T:TypeId):Bool :=
 match P.underlying T with
 | some (.map _ _)=>true
 | _=>false
theorem isMapT_spec {P:Program} {T:TypeId} (h:isMapT P T=true):∃ K V,P.underlying T=some (.map K V):=by
 unfold isMapT at h
 split at h
 ·rename_i K V hT;exact ⟨K,V,hT⟩
 ·cases h
def oLenM2 (x:Operand) (dst:Option Nat) (k:Nat):Option GE->Out
 | some (.map es .own)=>oV [x] [k] dst (.val (.int .i64 es.length))
 | _=>.fail
def oLenM (σ:AS) (x:Operand) (dst:Option Nat):AV->Out
 | .mp k=>oLenM2 x dst k (hg σ.h k)
 | .val (.map none)=>oV [x] [] dst (.val (.int .i64 0))
 | _=>.fail
theorem exec_len {P:Program} {o:Oper} {a:Act} {w w':World} {x:Operand} {T:TypeId} {v:Value} (ho:o.op=.call {callee:=.builtin .len,args:=#[x],argTypes:=#[T]})
 (h:(Builtin.len_ #[T] o.type #[a.eval x]).run P w=.ok v w'):(execOp a.eval o).run P w=.ok (.value v) w':=by
 simp only [execOp,ho,resolve,invoke,builtin,Sem.run_bind,Sem.run_pure,Result.andThen_ok,List.map_toArray,List.map_cons,List.map_nil,h]
theorem oLenM_ok {P:Program} {W:World} {σ:AS} {o:Oper} {T:TypeId} {x:Operand} (ho:o.op=.call {callee:=.builtin .len,args:=#[x],argTypes:=#[T]}) (hT:isMapT P T=true):OutOK P W o σ (oLenM σ x o.dst (evL σ x)):=by
 obtain ⟨K,V,hU⟩:=isMapT_spec hT
 unfold oLenM
 split
 ·rename_i k hx
  unfold oLenM2
  split
  ·rename_i es hb
   refine outOK_v [(x,.mp k)] [(k,some (.map es .own))] (localOKn [(x,.mp k)] [(k,some (.map es .own))] _ (t:=σ.den.t) (by simpa [evL_den] using hx) fun E τ a w β I r hR hh=>?_) (by simpa using hx) (by simpa using hb) rfl rfl
   obtain ⟨_,hv⟩:=(hR (x,.mp k) (by simp)).mp_inv
   obtain ⟨ms,c,h1,h2,h3,_⟩:=r.inv.ge k _ (hh (k,some (.map es .own)) (by simp))
   simp only at hv
   have hl:ms.size=es.length:=by have:=h2.length;simp at this;omega
   refine ⟨.int .i64 es.length,exec_len ho ?_,.val _ _⟩
   rw [hv]
   simp [Builtin.len_,run_underlying hU,rGetObj h1,goInt,hl]
  ·trivial
 ·rename_i hx
  refine outOK_v [(x,.val (.map none))] [] (localOKn [(x,.val (.map none))] [] _ (t:=σ.den.t) (by simpa [evL_den] using hx) fun E τ a w β I r hR hh=>?_) (by simpa using hx) (by simp) rfl rfl
  have hv:=(hR (x,.val (.map none)) (by simp)).val_inv
  refine ⟨.int .i64 0,exec_len ho ?_,.val _ _⟩
  simp only at hv
  rw [hv]
  simp [Builtin.len_,run_underlying hU,goInt]
 ·trivial
theorem exec_clear {P:Program} {o:Oper} {a:Act} {w w':World} {x:Operand} {T:TypeId} {v:Value} (ho:o.op=.call {callee:=.builtin .clear,args:=#[x],argTypes:=#[T]})
 (h:(Builtin.clear_ #[T] o.type #[a.eval x]).run P w=.ok v w'):(execOp a.eval o).run P w=.ok (.value v) w':=by
 simp only [execOp,ho,resolve,invoke,builtin,Sem.run_bind,Sem.run_pure,Result.andThen_ok,List.map_toArray,List.map_cons,List.map_nil,h]
theorem zeroCells_len (zs:Array Value) (n:Nat):(Builtin.zeroCells zs n).toList.length=n * zs.size:=by simp [Builtin.zeroCells]
theorem zeroCells_get {zs:Array Value} {n l j:Nat} {v:Value} (hz:zs.size=n) (h0:0<n) (h:(Builtin.zeroCells zs l).toList[j]?=some v):j<l * n/\zs.toList[j % n]?=some v:=by
 simp only [Builtin.zeroCells,Array.toList_map,List.getElem?_map,Array.toList_range,hz] at h
 by_cases hj:j<l * n
 ·rw [List.getElem?_range hj] at h
  have hm:=Nat.mod_lt j h0
  simp only [Option.map_some,Option.some.injEq] at h
  refine ⟨hj,?_⟩
  rw [<-h,getElem!_pos zs _ (by omega),Array.getElem?_toList,Array.getElem?_eq_getElem (by omega)]
 ·rw [List.getElem?_eq_none (by simpa using Nat.le_of_not_lt hj)] at h
  cases h
theorem run_clear {P:Program} {w w':World} {T e ty:TypeId} {i:TypeInfo} {z:Value} {ad:Addr} {len cap:Nat} (hT:P.underlying T=some (.slice e)) (hi:P.info? e=some i) (hz:i.zero=some z) (h0:len ≠ 0)
 (h:(storeCells ad (Builtin.zeroCells z.cells len).toList).run P w=.ok () w'):(Builtin.clear_ #[T] ty #[.slice (some ad) len cap]).run P w=.ok (.tuple #[]) w':=by
 obtain ⟨l',rfl⟩:∃ l',len=l'+1:=⟨len - 1,by omega⟩
 simp [Builtin.clear_,run_underlying hT,zeroValue,rTypeInfo hi,hz,h]
theorem ok_clear {P:Program} {o:Oper} {t:Nat->AV} {h:Nat->Option GE} {T e:TypeId} {i:TypeInfo} {z:Value} {x:Operand} {els:List AV} {n k i0 len:Nat}
 (ho:o.op=.call {callee:=.builtin .clear,args:=#[x],argTypes:=#[T]}) (hT:P.underlying T=some (.slice e)) (hi:P.info? e=some i) (hz:i.zero=some z) (hzs:z.cells.size=n) (hz1:z.cells.toList.all Value.oneCell'=true)
 (hx:evA t x=.gs k i0 len) (hk:h k=some (.arr e n els .own)) (hlen:i0+len<=els.length) :
 LocalOK P o {rt:=rds [(x,.gs k i0 len)],rh:=[(k,some (.arr e n els .own))],dst:=o.dst,v:=.val (.tuple #[]),
              wh:=[(k,some (.arr e n (els.take i0++List.replicate len (zeroA z)++els.drop (i0+len)) .own))]}:=by
 intro E σ a w K Q hN hr ⟨β,I,r⟩ hkk
 have hX:=R_ev r (ev_reads hx (fun p hp=>hr.1 p (by simp [rds,hp])))
 have hg:=hr.2 (k,some (.arr e n els .own)) (by simp)
 simp only at hg
 obtain ⟨g1,g2,g3,g4⟩:=r.inv.ge k _ hg
 have hfl1:(zeroA z).flat.length=n:=by rw [cells_zeroA z hz1];simpa using hzs
 have hfl:∀ y ∈ List.replicate len (zeroA z),y.flat.length=n:=fun y hy=>by rw [List.eq_of_mem_replicate hy];exact hfl1
 generalize hnw:(Builtin.zeroCells z.cells len).toList=news
 have htl:news.length=len * n:=by rw [<-hnw,zeroCells_len,hzs]
 have hone:∀ u ∈ news,u.oneCell'=true:=fun u hu=>by
  obtain ⟨j,hj⟩:=List.getElem?_of_mem hu
  rw [<-hnw] at hj
  exact List.all_eq_true.1 hz1 u (List.mem_of_getElem? (zeroCells_get hzs g2 hj).2)
 have hnews:RL β (dom σ.h) I w.heap true (flats (List.replicate len (zeroA z))) news:=by
  refine RL_of_get _ _ ?_ ?_
  ·rw [flats_length _ hfl,htl];simp
  ·intro j a' v ha hv
   rw [<-hnw] at hv
   obtain ⟨hj,hv'⟩:=zeroCells_get hzs g2 hv
   rw [flats_rep_get hfl1 g2 _ _ hj,cells_zeroA z hz1,List.getElem?_map,hv'] at ha
   simp only [Option.map_some,Option.some.injEq] at ha
   subst ha
   exact R_zc v
 unfold Oper.wp
 generalize hv0:a.eval x=v0 at hX
 cases hX with
 | gs d1 d2 d3 d4 =>
  rename_i cap base
  by_cases hq0:len=0
  ·subst hq0
   have e1:els.take i0++List.replicate 0 (zeroA z)++els.drop (i0+0)=els:=by simp
   have hrun:(execOp a.eval o).run P w=.ok (.value (.tuple #[])) w:=by
    refine exec_clear ho ?_
    rw [hv0]
    cases base<;>simp [Builtin.clear_,run_underlying hT]
   rw [hrun,Oper.upon_value]
   refine hkk _ _ ⟨β,I,?_⟩
   have:=r.put (dst:=o.dst) (x:=.val (.tuple #[])) (v:=.tuple #[]) hN (.val _ _)
   simp only [SS.upd,hset_one,e1,hput_self _ _ _ hg]
   exact this
  ·rcases d4 with d4|⟨d4,d5⟩
   ·omega
   ·rcases g4 with ⟨_,h⟩|⟨hz0,vs,g5,g6,g7,g8,g9,_,g10⟩
    ·exfalso;rw [h] at hlen;simp at hlen;omega
    ·rw [g1] at d4 d5
     have hle:els.length * n<=(β k).z:=g7
     have hle2:i0 * n+len * n<=els.length * n:=by rw [<-Nat.add_mul];exact Nat.mul_le_mul_right _ (by omega)
     have hst:=run_storeCells_at P (β k).b (i0 * n) e news 0 vs w g5 (by rw [htl];omega) hone
     simp only [Nat.add_zero,htl] at hst
     have hrun:∀ w',(storeCells ⟨(β k).b,i0 * n,none⟩ news).run P w=.ok () w'->(execOp a.eval o).run P w=.ok (.value (.tuple #[])) w':=fun w' hst=>by
      refine exec_clear ho ?_
      rw [hv0,d4]
      exact run_clear hT hi hz hq0 (by rw [hnw];exact hst)
     rw [hrun _ hst,Oper.upon_value]
     refine hkk _ _ ⟨β,I,?_⟩
     have hnI:=g10 (by simp)
     have hnew:∀ x ∈ els.take i0++List.replicate len (zeroA z)++els.drop (i0+len),x.flat.length=n:=fun x hx=>by
      rcases List.mem_append.1 hx with h|h
      ·rcases List.mem_append.1 h with h|h
       ·exact g3 x (List.mem_of_mem_take h)
       ·exact hfl x h
      ·exact g3 x (List.mem_of_mem_drop h)
     have hlenN:(els.take i0++List.replicate len (zeroA z)++els.drop (i0+len)).length=els.length:=by simp;omega
     have hcells:(vs.toList.take (i0 * n)++news++vs.toList.drop (i0 * n+len * n)).take (els.length * n) =
      (vs.toList.take (els.length * n)).take (i0 * n)++news++(vs.toList.take (els.length * n)).drop (i0 * n+len * n):=by
      have h1:(vs.toList.take (i0 * n)).length=i0 * n:=by simp;omega
      rw [List.take_append,List.take_append,List.length_append,h1,htl]
      rw [List.take_of_length_le (l:=vs.toList.take (i0 * n)) (by omega),List.take_of_length_le (l:=news) (by omega)]
      rw [List.take_take,Nat.min_eq_left (by omega),List.drop_take]
     refine r.modify (v:=.tuple #[]) hg (Turns.setRow w _ _) hN hnI hz0 hz0 (fun x=>by cases x<;>simp [Compat]) (by simp [GE.st]) (fun K'=>?_) (fun K'=>.val _ _)
     refine ⟨g1,g2,hnew,.inr ⟨hz0,_,setRow_heap w _ _ _ e (0,0) g5,by simp only [List.size_toArray,List.length_append,htl,List.length_take,List.length_drop,Array.length_toList];omega,by rw [hlenN];exact g7,?_,?_,(fun h=>by cases h),fun _=>hnI⟩⟩
     ·rw [hlenN]
      show RL _ _ _ _ _ _ (List.take (els.length * n) (vs.toList.take (i0 * n)++news++vs.toList.drop (i0 * n+len * n)))
      rw [hcells,flats_append,flats_append]
      refine RL.append (RL.append ?_ ?_) ?_
      ·have:=(g8.take (i0 * n)).keep K'
       rwa [flats_take _ _ g3] at this
      ·exact hnews.keep K'
      ·have:=(g8.drop ((i0+len) * n)).keep K'
       rwa [flats_drop _ _ g3,Nat.add_mul] at this
     ·rw [hlenN]
      show cellsOne (List.take (els.length * n) (vs.toList.take (i0 * n)++news++vs.toList.drop (i0 * n+len * n)))
      rw [hcells]
      intro u hu
      rcases List.mem_append.1 hu with h|h
      ·rcases List.mem_append.1 h with h|h
       ·exact g9 u (List.mem_of_mem_take h)
       ·exact hone u h
      ·exact g9 u (List.mem_of_mem_drop h)
def oClear2 (P:Program) (e:TypeId) (x:Operand) (dst:Option Nat) (k i0 len:Nat):Option GE->Out
 | some (.arr e' n els .own) =>
  if e=e'/\n=(ty P e).size/\(ty P e).okz=true then
   .req (i0+len<=els.length) (.eff ⟨dst,.val (.tuple #[]),[(k,.arr e n (els.take i0++List.replicate len (ty P e).z++els.drop (i0+len)) .own)]⟩ ⟨[x].flatMap rdN,dN dst,[k],[k]⟩)
  else .fail
 | _=>.fail
def oClear (P:Program) (σ:AS) (x:Operand) (dst:Option Nat):Option TypeId->AV->Out
 | some e,.gs k i0 len=>oClear2 P e x dst k i0 len (hg σ.h k)
 | _,_=>.fail
theorem oClear_ok {P:Program} {W:World} {σ:AS} {o:Oper} {T:TypeId} {x:Operand} (ho:o.op=.call {callee:=.builtin .clear,args:=#[x],argTypes:=#[T]}):OutOK P W o σ (oClear P σ x o.dst (ty P T).el (evL σ x)):=by
 unfold oClear
 split
 ·rename_i e k i0 len hel hx
  unfold oClear2
  split
  ·rename_i e' n els hb
   split
   ·rename_i hc
    obtain ⟨rfl,rfl,hz⟩:=hc
    obtain ⟨i,z,h4,h5,h6,h7,h8,h9,_⟩:=ty_zero hz
    intro hle
    rw [h8]
    have:=ok_clear (P:=P) (t:=σ.den.t) (h:=hg σ.h) (n:=(ty P e).size) ho (ty_el hel) h4 h5 (by rw [h6,h9]) h7 (by rw [evL_den];exact hx) hb hle
    exact outOK_w (P:=P) (W:=W) (σ:=σ) [(x,.gs k i0 len)] _ [(k,.arr e (ty P e).size (els.take i0++List.replicate len (zeroA z)++els.drop (i0+len)) .own)] this rfl (by simpa using hx) (by simpa using hb) (ys:=[x]) (whN:=[k]) rfl rfl rfl
   ·trivial
  ·trivial
 ·trivial
end Go.Ac

namespace Go.Ac
open Go
theorem R.gp_inv {β:Nat->Plc} {D I:Nat->Prop} {H:Array Obj} {m:Bool} {k c:Nat} {v:Value} (h:R β D I H m (.gp k c) v):D k/\v=.pointer (some ⟨(β k).b,c,none⟩):=by
 cases h with
 | gp h=>exact ⟨h,rfl⟩
def oRangeS (P:Program) (T:TypeId) (x:Operand) (dst:Option Nat):AV->Option Nat->Out
 | .str s,some k=>if (ty P T).str=true then .eff ⟨dst,.gp k 0,[(k,.iter s 0)]⟩ ⟨[x].flatMap rdN,dN dst,[k],[k]⟩ else .fail
 | _,_=>.fail
theorem ok_rangeS {P:Program} {o:Oper} {t:Nat->AV} {T:TypeId} {x:Operand} {s:List UInt8} {d:Nat} (ho:o.op=.range T x) (hT:P.underlying T=some .string) (hx:evA t x=.str s) :
 LocalOK P o {rt:=rds [(x,.str s)],rh:=[(d,none)],dst:=o.dst,v:=.gp d 0,wh:=[(d,some (.iter s 0))]}:=by
 intro E σ a w K Q hN hr ⟨β,I,r⟩ hk
 have hd0:=hr.2 (d,none) (by simp)
 have hX:=(R_ev r (ev_reads hx (fun p hp=>hr.1 p (by simp [rds,hp])))).str_inv
 unfold Oper.wp
 have hrun:(execOp a.eval o).run P w=.ok (.value (.pointer (some ⟨w.heap.size,0,none⟩))) (w.alloc (.stringIter ⟨s.toArray⟩ 0)):=by
  simp [execOp,ho,hX,Instr.range,run_underlying hT]
 rw [hrun,Oper.upon_value]
 refine hk _ _ ⟨bset β d ⟨w.heap.size,1,0⟩,I,?_⟩
 refine r.create (n:=1) (z:=0) hd0 (Adds.alloc w _) hN (fun K hI=>?_) (fun K=>?_)
 ·refine ⟨?_,by rw [bset_same];exact hI⟩
  rw [bset_same];exact (Adds.alloc w _).new
 ·have hD:dom (hput σ.h d (some (.iter s 0))) d:=by simp only [dom,hput_same,Option.isSome_some]
  have h1:=R.gp (β:=bset β d ⟨w.heap.size,1,0⟩) (I:=I) (H:=(w.alloc (.stringIter ⟨s.toArray⟩ 0)).heap) (c:=0) hD
  rw [bset_same] at h1;exact h1
theorem oRangeS_ok {P:Program} {W:World} {σ:AS} {o:Oper} {T:TypeId} {x:Operand} (ho:o.op=.range T x) {m:Option Nat} (hm:∀ k,m=some k->hg σ.h k=none):OutOK P W o σ (oRangeS P T x o.dst (evL σ x) m):=by
 unfold oRangeS
 split
 ·rename_i s k hx
  split
  ·rename_i hT
   exact outOK_w (P:=P) (W:=W) [(x,.str s)] [(k,none)] [(k,.iter s 0)] (ok_rangeS (t:=σ.den.t) (d:=k) ho (ty_str hT) (by rw [evL_den];exact hx)) rfl (by simpa using hx) (by simpa using hm _ rfl) (ys:=[x]) rfl rfl rfl
  ·trivial
 ·trivial
def decS (s:List UInt8) (pos:Nat):Nat×Nat:=Utf8.decode ⟨s.toArray⟩ pos
def oNextS2 (x:Operand) (dst:Option Nat) (k:Nat):Option GE->Out
 | some (.iter s pos) =>
  .ite (decide (pos<s.length)) (.eff ⟨dst,.tup [.val (.bool true),.val (.int .i64 pos),.val (.int .i32 (decS s pos).1)],[(k,.iter s (pos+(decS s pos).2))]⟩ ⟨[x].flatMap rdN,dN dst,[k],[k]⟩)
   (oV [x] [k] dst (.tup [.val (.bool false)]))
 | _=>.fail
def oNextS (σ:AS) (x:Operand) (dst:Option Nat):AV->Out
 | .gp k 0=>oNextS2 x dst k (hg σ.h k)
 | _=>.fail
theorem run_next {P:Program} {w:World} {r pos:Nat} {s:List UInt8} {T:TypeId} (h:w.heap[r]?=some (.stringIter ⟨s.toArray⟩ pos)) :
 (Instr.next (.pointer (some ⟨r,0,none⟩)) true T).run P w=if pos<s.length then .ok (.tuple #[.bool true,.int .i64 pos,.int .i32 (decS s pos).1]) {w with heap:=w.heap.setIfInBounds r (.stringIter ⟨s.toArray⟩ (pos+(decS s pos).2))} else .ok (.tuple #[.bool false]) w:=by
 have hsz:(⟨s.toArray⟩:ByteArray).size=s.length:=by simp [ByteArray.size]
 have hg:(getObj r).run P w=.ok (.stringIter ⟨s.toArray⟩ pos) w:=by simp [getObj,Sem.run,h]
 have hs:∀ o,(setObj r o).run P w=.ok () {w with heap:=w.heap.setIfInBounds r o}:=fun o=>by simp [setObj,Sem.run,h]
 by_cases hp:pos<s.length
 ·simp [Instr.next,hg,hsz,hp,hs,decS,goInt]
 ·simp [Instr.next,hg,hsz,hp]
theorem oNextS_ok {P:Program} {W:World} {σ:AS} {o:Oper} {x:Operand} (ho:o.op=.next x true):OutOK P W o σ (oNextS σ x o.dst (evL σ x)):=by
 unfold oNextS
 split
 ·rename_i k hx
  unfold oNextS2
  split
  ·rename_i s pos hb
   refine ⟨fun hp=>?_,fun hp=>?_⟩
   ·have hp:=of_decide_eq_true hp
    have key:LocalOK P o {rt:=rds [(x,.gp k 0)],rh:=[(k,some (.iter s pos))],dst:=o.dst,v:=.tup [.val (.bool true),.val (.int .i64 pos),.val (.int .i32 (decS s pos).1)],wh:=[(k,some (.iter s (pos+(decS s pos).2)))]}:=by
     intro E τ a w K' Q hN hr ⟨β,I,r⟩ hk
     obtain ⟨hD,hv⟩:=(R_ev r (ev_reads (t:=σ.den.t) (by rw [evL_den];exact hx) (fun p hp=>hr.1 p (by simp [rds,hp])))).gp_inv
     have hg:=hr.2 (k,some (.iter s pos)) (by simp)
     obtain ⟨h1,h2⟩:=r.inv.ge k _ hg
     unfold Oper.wp
     have hrun:=run_next (P:=P) (w:=w) (T:=o.type) h1
     rw [if_pos hp] at hrun
     have hex:(execOp a.eval o).run P w=.ok (.value (.tuple #[.bool true,.int .i64 pos,.int .i32 (decS s pos).1])) {w with heap:=w.heap.setIfInBounds (β k).b (.stringIter ⟨s.toArray⟩ (pos+(decS s pos).2))}:=by
      simp only [execOp,ho,hv,Sem.run_bind,hrun,Result.andThen_ok,Sem.run_pure]
     rw [hex,Oper.upon_value]
     refine hk _ _ ⟨β,I,?_⟩
     refine r.modify (dst:=o.dst) (v:=.tuple #[.bool true,.int .i64 pos,.int .i32 (decS s pos).1]) hg (Turns.setObj w _ _) hN h2 trivial trivial (fun x=>by cases x<;>simp [Compat]) (by simp [GE.st]) (fun Kp=>?_) (fun Kp=>.tup (.cons (.val _ _) (.cons (.val _ _) (.cons (.val _ _) (.nil _)))))
     refine ⟨?_,h2⟩
     have hlt:(β k).b<w.heap.size:=(Array.getElem?_eq_some_iff.1 h1).1
     simp [hlt]
    exact outOK_w (P:=P) (W:=W) [(x,.gp k 0)] [(k,some (.iter s pos))] [(k,.iter s (pos+(decS s pos).2))] key rfl (by simpa using hx) (by simpa using hb) (ys:=[x]) rfl rfl rfl
   ·have hp:=of_decide_eq_false hp
    refine outOK_v [(x,.gp k 0)] [(k,some (.iter s pos))] (localOKn [(x,.gp k 0)] [(k,some (.iter s pos))] _ (t:=σ.den.t) (by simpa [evL_den] using hx) fun E τ a w β I r hR hh=>?_) (by simpa using hx) (by simpa using hb) rfl rfl
    obtain ⟨_,hv⟩:=(hR (x,.gp k 0) (by simp)).gp_inv
    obtain ⟨h1,h2⟩:=r.inv.ge k _ (hh (k,some (.iter s pos)) (by simp))
    have hrun:=run_next (P:=P) (w:=w) (T:=o.type) h1
    rw [if_neg hp] at hrun
    simp only at hv
    exact ⟨_,by simp only [execOp,ho,hv,Sem.run_bind,hrun,Result.andThen_ok,Sem.run_pure],.tup (.cons (.val _ _) (.nil _))⟩
  ·trivial
 ·trivial
end Go.Ac

namespace Go.Ac
open Go
theorem run_part {P:Program} {w:World} {β:Nat->Plc} {D I:Nat->Prop} {H:Array Obj} {m:Bool} {t:TypeId} {d:TypeDesc} {i:TypeInfo} {el X:AV} {c:Nat} {vs:List Value}
 (hd:P.underlying t=some d) (hi:P.info? t=some i) (hX:ldV (descAgg d) i.size el c=some X) (hR:RL β D I H m el.flat vs):∃ v,(part t vs.toArray c).run P w=.ok v w/\R β D I H m X v:=by
 unfold ldV at hX
 cases ha:descAgg d with
 | false =>
  simp only [ha,Bool.false_eq_true,if_false] at hX
  obtain ⟨v,hv,hr⟩:=hR.get' c X hX
  refine ⟨v,?_,hr⟩
  have hv':vs.toArray[c]?=some v:=by simpa using hv
  simp only [part,Sem.run_bind,run_isAgg hd,ha,Result.andThen_ok,Bool.false_eq_true,if_false,hv',Sem.run_pure]
 | true =>
  simp only [ha,if_true] at hX
  have key:(part t vs.toArray c).run P w=.ok (.agg ((vs.drop c).take i.size).toArray) w:=by
   have e:vs.toArray.extract c (c+i.size)=((vs.drop c).take i.size).toArray:=by
    rw [List.extract_toArray,List.extract_eq_take_drop,Nat.add_sub_cancel_left]
   simp only [part,Sem.run_bind,run_isAgg hd,ha,Result.andThen_ok,if_true,run_sizeOf' hi,Sem.run_pure,e]
  rw [key]
  split at hX
  ·rename_i hc0
   obtain ⟨rfl,h1,h2⟩:=hc0
   cases hX
   have hl:=hR.length
   refine ⟨_,rfl,?_⟩
   rw [AV.flat_isAgg h1,List.drop_zero,List.take_of_length_le (by omega)]
   exact .agg hR
  ·split at hX
   ·cases hX
    exact ⟨_,rfl,.agg ((hR.drop c).take _)⟩
   ·cases hX
def oField2 (P:Program) (x:Operand) (dst:Option Nat) (cs:List AV) (fd:Field):Option TypeDesc->Option TypeInfo->Out
 | some d,some i=>oVo [x] [] dst (ldV (descAgg d) i.size (.agg cs) fd.offset)
 | _,_=>.fail
def oField1 (P:Program) (x:Operand) (dst:Option Nat) (cs:List AV) (f:Nat):Option TypeDesc->Out
 | some (.struct fs)=>match fs[f]? with
  | some fd=>oField2 P x dst cs fd (P.underlying fd.type) (P.info? fd.type)
  | none=>.fail
 | _=>.fail
def oField (P:Program) (T:TypeId) (x:Operand) (f:Nat) (dst:Option Nat):AV->Out
 | .agg cs=>oField1 P x dst cs f (P.underlying T)
 | _=>.fail
theorem oField_ok {P:Program} {W:World} {σ:AS} {o:Oper} {T:TypeId} {x:Operand} {f:Nat} (ho:o.op=.field T x f):OutOK P W o σ (oField P T x f o.dst (evL σ x)):=by
 unfold oField
 split
 case h_2=>trivial
 rename_i cs hx
 unfold oField1
 split
 case h_2=>trivial
 rename_i fs hT
 split
 case h_2=>trivial
 rename_i fd hf
 unfold oField2
 split
 case h_2=>trivial
 rename_i d i hd hi
 cases hX:ldV (descAgg d) i.size (.agg cs) fd.offset with
 | none=>simp only [oVo];trivial
 | some X =>
  simp only [oVo]
  refine outOK_v [(x,.agg cs)] [] (localOKn [(x,.agg cs)] [] _ (t:=σ.den.t) (by simpa [evL_den] using hx) fun E τ a w β I r hR hh=>?_) (by simpa using hx) (by simp) rfl rfl
  have h0:=hR (x,.agg cs) (by simp)
  simp only at h0
  generalize hv:a.eval x=v at h0
  cases h0 with
  | agg h0 =>
   rename_i vs
   obtain ⟨u,q1,q2⟩:=run_part (P:=P) (w:=w) (el:=.agg cs) hd hi hX h0
   refine ⟨u,?_,q2⟩
   simp [execOp,ho,hv,Instr.field,run_underlying hT,hf,asAgg,q1]
end Go.Ac

namespace Go.Ac
open Go
def vOf:AV->Option Value
 | .val v=>some v
 | .str l=>some (.string ⟨l.toArray⟩)
 | _=>none
def vsOf:List AV->Option (List Value)
 | []=>some []
 | a::l=>match vOf a,vsOf l with
  | some v,some vs=>some (v::vs)
  | _,_=>none
section
variable {β:Nat->Plc} {D I:Nat->Prop} {H:Array Obj} {m:Bool}
theorem vOf_R {a:AV} {v u:Value} (h:vOf a=some v) (hr:R β D I H m a u):u=v:=by
 cases a with
 | val x=>simp only [vOf,Option.some.injEq] at h;subst h;exact hr.val_inv
 | str l=>simp only [vOf,Option.some.injEq] at h;subst h;exact hr.str_inv
 | _=>cases h
theorem vsOf_R:∀ {l:List AV} {vs us:List Value},vsOf l=some vs->RL β D I H m l us->us=vs
 | [],vs,us,h,hr=>by cases h;cases hr;rfl
 | a::l,vs,us,h,hr=>by
  simp only [vsOf] at h
  split at h
  ·rename_i v vs' h1 h2
   cases h
   cases hr with
   | cons q1 q2=>rw [vOf_R h1 q1,vsOf_R h2 q2]
  ·cases h
end
def wideT (P:Program) (T:TypeId):Bool:=match P.underlying T with|some (.array _ _)|some (.struct _)=>true|_=>false
def oEqAgg2 (op:BinOp) (x y:Operand) (dst:Option Nat):Option Lit->Option Lit->Out
 | some (.string a),some (.string b)=>match op with
  | .eql=>oV [x,y] [] dst (.val (.bool (decide (a=b))))
  | .neq=>oV [x,y] [] dst (.val (.bool (!decide (a=b))))
  | _=>.fail
 | _,_=>.fail
def oEqAgg1 (P:Program) (T:TypeId) (op:BinOp) (x y:Operand) (dst:Option Nat):Option (List Value)->Option (List Value)->Out
 | some vs,some us=>if P.keyTypeAt 20 T=true/\wideT P T=true/\P.eqGuardType P.depth T=false then oEqAgg2 op x y dst (keyOf P T (.agg vs.toArray)) (keyOf P T (.agg us.toArray)) else .fail
 | _,_=>.fail
theorem ok_eqAgg {P:Program} {o:Oper} {t:Nat->AV} {op:BinOp} {xT yT:TypeId} {x y:Operand} {cs ds:List AV} {vs us:List Value} {a b:List UInt8} (ho:o.op=.binOp op xT x y yT) (hop:op=.eql\/op=.neq)
 (hx:evA t x=.agg cs) (hy:evA t y=.agg ds) (hv:vsOf cs=some vs) (hu:vsOf ds=some us) (h1:P.keyTypeAt 20 xT=true) (h2:wideT P xT=true) (h3:P.eqGuardType P.depth xT=false)
 (ha:keyOf P xT (.agg vs.toArray)=some (.string a)) (hb:keyOf P xT (.agg us.toArray)=some (.string b)) :
 LocalOK P o {rt:=rds [(x,.agg cs),(y,.agg ds)],rh:=[],dst:=o.dst,v:=.val (.bool (bif decide (op=.eql) then decide (a=b) else !decide (a=b)))} :=
 localOKn [(x,.agg cs),(y,.agg ds)] [] _ (by simpa using ⟨hx,hy⟩) fun E σ a' w β I _ hR _=>by
  have q1:=hR (x,.agg cs) (by simp)
  have q2:=hR (y,.agg ds) (by simp)
  simp only at q1 q2
  generalize hX:a'.eval x=X at q1
  generalize hY:a'.eval y=Y at q2
  cases q1 with
  | agg q1 =>
  cases q2 with
  | agg q2 =>
  have e1:=vsOf_R hv q1
  have e2:=vsOf_R hu q2
  subst e1 e2
  obtain ⟨r,hr,hiff⟩:=run_equal_deep w (m:=20) (by decide) h1 h2 ha hb
  have er:r=decide (a=b):=by rw [Bool.eq_iff_iff];simp [hiff]
  subst er
  have hr':(Op.equalIn 10000 xT (.agg _) (.agg _)).run P w=_:=hr
  rcases hop with rfl|rfl
  ·refine ⟨_,?_,.val _ _⟩
   simp [execOp,ho,hX,hY,run_eqGuard_agg w _ _ _ _ _ _ h3,run_eql_struct,hr',Result.andThen]
  ·refine ⟨_,?_,.val _ _⟩
   simp [execOp,ho,hX,hY,run_eqGuard_agg w _ _ _ _ _ _ h3,run_neq_struct,hr',Result.andThen]
def oEqAgg (P:Program) (T:TypeId) (op:BinOp) (x y:Operand) (dst:Option Nat) (cs ds:List AV):Out:=oEqAgg1 P T op x y dst (vsOf cs) (vsOf ds)
theorem oEqAgg_ok {P:Program} {W:World} {σ:AS} {o:Oper} {op:BinOp} {xT yT:TypeId} {x y:Operand} {cs ds:List AV} (ho:o.op=.binOp op xT x y yT) (hx:evL σ x=.agg cs) (hy:evL σ y=.agg ds) :
 OutOK P W o σ (oEqAgg P xT op x y o.dst cs ds):=by
 unfold oEqAgg oEqAgg1
 split
 ·rename_i vs us hv hu
  split
  ·rename_i hc
   unfold oEqAgg2
   split
   ·rename_i a b ha hb
    split
    ·exact outOK_v [(x,.agg cs),(y,.agg ds)] [] (ok_eqAgg (op:=.eql) ho (.inl rfl) (by rw [evL_den];exact hx) (by rw [evL_den];exact hy) hv hu hc.1 hc.2.1 hc.2.2 ha hb) (by simpa using ⟨hx,hy⟩) (by simp) rfl rfl
    ·exact outOK_v [(x,.agg cs),(y,.agg ds)] [] (ok_eqAgg (op:=.neq) ho (.inr rfl) (by rw [evL_den];exact hx) (by rw [evL_den];exact hy) hv hu hc.1 hc.2.1 hc.2.2 ha hb) (by simpa using ⟨hx,hy⟩) (by simp) rfl rfl
    ·trivial
   ·trivial
  ·trivial
 ·trivial
end Go.Ac

namespace Go.Ac
open Go
def oIxArr2 (x ix:Operand) (dst:Option Nat) (cs:List AV) (j:Int) (n:Nat):Option TypeDesc->Option TypeInfo->Out
 | some d,some i=>if 0<=j/\j<n then oVo [x,ix] [] dst (ldV (descAgg d) i.size (.agg cs) (j.toNat * i.size)) else .fail
 | _,_=>.fail
def oIxArr1 (P:Program) (x ix:Operand) (dst:Option Nat) (cs:List AV) (j:Int):Option TypeDesc->Out
 | some (.array n e)=>oIxArr2 x ix dst cs j n (P.underlying e) (P.info? e)
 | _=>.fail
def oIndexX (P:Program) (T:TypeId) (x ix:Operand) (dst:Option Nat):AV->AV->Out
 | .agg cs,.val (.int _ j)=>oIxArr1 P x ix dst cs j (P.underlying T)
 | X,Y=>oIndex (ty P T) x ix dst X Y
theorem oIndexX_ok {P:Program} {W:World} {σ:AS} {o:Oper} {xT:TypeId} {x ix:Operand} (ho:o.op=.index xT x ix):OutOK P W o σ (oIndexX P xT x ix o.dst (evL σ x) (evL σ ix)):=by
 have hb:=oIndex_ok (P:=P) (W:=W) (σ:=σ) ho
 unfold oIndexX
 split
 case h_2=>exact hb
 rename_i cs k j hx hix
 unfold oIxArr1
 split
 case h_2=>trivial
 rename_i n e hT
 unfold oIxArr2
 split
 case h_2=>trivial
 rename_i d i hd hi
 split
 case isFalse=>trivial
 rename_i hj
 cases hX:ldV (descAgg d) i.size (.agg cs) (j.toNat * i.size) with
 | none=>simp only [oVo];trivial
 | some X =>
  simp only [oVo]
  refine outOK_v [(x,.agg cs),(ix,.val (.int k j))] [] (localOKn [(x,.agg cs),(ix,.val (.int k j))] [] _ (t:=σ.den.t) (by simpa [evL_den] using ⟨hx,hix⟩) fun E τ a w β I r hR hh=>?_) (by simpa using ⟨hx,hix⟩) (by simp) rfl rfl
  have h0:=hR (x,.agg cs) (by simp)
  have h1:=(hR (ix,.val (.int k j)) (by simp)).val_inv
  simp only at h0 h1
  generalize hv:a.eval x=v at h0
  cases h0 with
  | agg h0 =>
   rename_i vs
   obtain ⟨u,q1,q2⟩:=run_part (P:=P) (w:=w) (el:=.agg cs) hd hi hX h0
   refine ⟨u,?_,q2⟩
   simp [execOp,ho,hv,h1,Instr.index,asIntOf,run_underlying hT,hj,run_sizeOf' hi,q1]
end Go.Ac

namespace Go.Ac
open Go
theorem zeroCells_made (z:Array Value) (n:Nat):Builtin.zeroCells z n=madeCells z (n * z.size):=rfl
theorem run_app_make {P:Program} {w:World} {t u ty e:TypeId} {j k:IntKind} {i:TypeInfo} {z:Value} {m:Nat} (ht:P.underlying t=some (.slice e)) (hu:P.underlying u=some (.int j)) (hi:P.info? e=some i) (hz:i.zero=some z)
 (hm:0<m) (h63:m<=9223372036854775807) (hsz:0<i.size) (hby:0<i.bytes) (hfit:m * i.bytes<=140737488355328) :
 (Builtin.append_ #[t,u] ty #[.slice none 0 0,.int k m]).run P w=.ok (.slice (some ⟨w.heap.size,0,none⟩) m (grownCap w m 0 e))
  (w.drew.alloc (.cells (Builtin.zeroCells z.cells m++Builtin.zeroCells z.cells (grownCap w m 0 e - m)) e)):=by
 have h1:¬ m<=0:=by omega
 have h2:¬ (9223372036854775807<(m:Int)):=by omega
 have hw:IntKind.i64.wrap (m:Int)=m:=by rw [IntKind.wrap_i64];omega
 have h3:Builtin.nextslicecap m 0 * i.bytes<=281474976710656:=growslice_fits hm hfit
 have h4:¬ i.bytes=0:=by omega
 have h5:¬ ((m:Int)<0):=by omega
 have h6:¬ ((281474976710656:Int)<(m:Int) * (i.bytes:Int)):=by
  have:((m * i.bytes:Nat):Int)<=((140737488355328:Nat):Int):=Int.ofNat_le.2 hfit
  rw [Int.natCast_mul] at this
  omega
 have h7:¬ (281474976710656<Builtin.nextslicecap m 0 * i.bytes):=by omega
 have h8:¬ (m * i.size=0):=by
  intro hc
  rcases Nat.mul_eq_zero.1 hc with h|h<;>omega
 have h9:¬ m=0:=by omega
 have h10:¬ i.size=0:=by omega
 have hroom:∀ (n:Nat) (w:World),(askRoom n).run P w=.ok () w:=by intro n w;unfold askRoom;split<;>simp
 simp [Builtin.append_,run_underlying ht,run_underlying hu,sizeOf,typeInfo,hi,asInt,asIntOf,hw,h1,h2,h4,h5,h6,h7,h8,h9,h10,zeroValue,hz,Question.forced,hroom,newRow,grownCap,Question.cut,Builtin.firstCells]
theorem ok_appendMk {P:Program} {o:Oper} {t:Nat->AV} {T U e:TypeId} {j k:IntKind} {i:TypeInfo} {x y:Operand} {z:Value} {n d m:Nat}
 (ho:o.op=.call {callee:=.builtin .append,args:=#[x,y],argTypes:=#[T,U]}) (hT:P.underlying T=some (.slice e)) (hU:P.underlying U=some (.int j)) (hi:P.info? e=some i) (hn:i.size=n) (hn0:0<n)
 (hz:i.zero=some z) (hzs:z.cells.size=n) (hz1:z.cells.toList.all Value.oneCell'=true) (hby:0<i.bytes)
 (hx:evA t x=.val (.slice none 0 0)) (hy:evA t y=.val (.int k m)) (hm:0<m) (hfit:m * i.bytes<=140737488355328) :
 LocalOK P o {rt:=rds [(x,.val (.slice none 0 0)),(y,.val (.int k m))],rh:=[(d,none)],dst:=o.dst,v:=.gs d 0 m,wh:=[(d,some (.arr e n (List.replicate m (zeroA z)) .own))]}:=by
 intro E σ a w K Q hN hr ⟨β,I,r⟩ hk
 have hX:=(R_ev r (ev_reads hx (fun p hp=>hr.1 p (by simp [rds,hp])))).val_inv
 have hY:=(R_ev r (ev_reads hy (fun p hp=>hr.1 p (by simp [rds,hp])))).val_inv
 have hd0:=hr.2 (d,none) (by simp)
 have hfl:(zeroA z).flat.length=n:=by rw [cells_zeroA z hz1];simpa using hzs
 have hmax:m<=maxLen:=by
  have:m * 1<=m * i.bytes:=Nat.mul_le_mul_left _ hby
  unfold maxLen;omega
 have hgc:=grownCap_bound (w:=w) (old:=0) (e:=e) hmax
 have hgo:=run_app_make (P:=P) (w:=w) (ty:=o.type) (k:=k) hT hU hi hz hm (by unfold maxLen at hmax;omega) (by omega) hby hfit
 rw [<-hX,<-hY] at hgo
 unfold Oper.wp
 have hrun:=exec_append ho hgo
 rw [hrun,Oper.upon_value]
 have hlen:(List.replicate m (zeroA z)).length=m:=by simp
 have hall:∀ x ∈ List.replicate m (zeroA z),x.flat.length=n:=fun x hx=>by rw [List.eq_of_mem_replicate hx];exact hfl
 have hsz:(Builtin.zeroCells z.cells m++Builtin.zeroCells z.cells (grownCap w m 0 e - m)).size=grownCap w m 0 e * n:=by
  simp only [Array.size_append,size_zeroCells,hzs]
  rw [<-Nat.add_mul];congr 1;omega
 have htk:(Builtin.zeroCells z.cells m++Builtin.zeroCells z.cells (grownCap w m 0 e - m)).toList.take (m * n)=(madeCells z.cells (m * n)).toList:=by
  rw [Array.toList_append,zeroCells_made,hzs]
  have:(madeCells z.cells (m * n)).toList.length=m * n:=by rw [Array.length_toList,size_madeCells]
  rw [List.take_append_of_le_length (by omega),List.take_of_length_le (by omega)]
 refine hk _ _ ⟨bset β d ⟨w.heap.size,n,grownCap w m 0 e * n⟩,I,?_⟩
 refine r.create (n:=n) (z:=grownCap w m 0 e * n) hd0 (Adds.drewAlloc w _) hN (fun K hI=>?_) (fun K=>?_)
 ·refine ⟨by rw [bset_same],hn0,hall,.inr ⟨?_,_,by rw [bset_same];exact (Adds.drewAlloc w _).new,by rw [bset_same];exact hsz,by rw [bset_same,hlen];exact Nat.mul_le_mul_right _ hgc.1,?_,?_,(fun h=>by cases h),fun _=>by rw [bset_same];exact hI⟩⟩
  ·rw [bset_same]
   intro hc
   rcases Nat.mul_eq_zero.1 hc with h|h<;>omega
  ·rw [hlen,htk]
   refine RL_of_get _ _ ?_ ?_
   ·rw [flats_length _ hall,hlen,Array.length_toList,size_madeCells]
   ·intro j' a' v ha hv
    have hj:j'<m * n:=by have:=(List.getElem?_eq_some_iff.1 hv).1;simpa [size_madeCells] using this
    rw [flats_rep_get hfl hn0 _ _ hj,cells_zeroA z hz1,List.getElem?_map] at ha
    have hv':z.cells[j' % z.cells.size]! = v:=by
     simp only [madeCells,Array.toList_map,List.getElem?_map,Array.toList_range,List.getElem?_range] at hv
     rw [List.getElem?_range (by omega)] at hv
     simpa using hv
    rw [hzs] at hv'
    have hmm:=Nat.mod_lt j' hn0
    have hg:z.cells.toList[j' % n]?=some v:=by
     rw [<-hv',getElem!_pos z.cells _ (by omega),Array.getElem?_toList,Array.getElem?_eq_getElem (by omega)]
    rw [hg] at ha
    simp only [Option.map_some,Option.some.injEq] at ha
    subst ha
    exact R_zc v
  ·rw [hlen,htk]
   intro v hv
   exact List.all_eq_true.1 hz1 v (mem_madeCells (by omega) hv)
 ·have:=R.gs (β:=bset β d ⟨w.heap.size,n,grownCap w m 0 e * n⟩) (D:=dom (hput σ.h d (some (.arr e n (List.replicate m (zeroA z)) .own)))) (I:=I) (H:=(w.drew.alloc (.cells (Builtin.zeroCells z.cells m++Builtin.zeroCells z.cells (grownCap w m 0 e - m)) e)).heap)
   (k:=d) (i:=0) (len:=m) (cap:=grownCap w m 0 e) (base:=some ⟨w.heap.size,0,none⟩) (by simp only [dom,hput_same,Option.isSome_some]) hgc.1 hgc.2 (.inr (by rw [bset_same];exact ⟨by simp,by simp⟩))
  simpa using this
def oMk (e:Nat) (Te:Ty) (x y:Operand) (dst:Option Nat) (m:Int) (d:Nat):Out :=
 .req (0<m/\m.toNat * Te.bytes<=140737488355328) (.eff ⟨dst,.gs d 0 m.toNat,[(d,.arr e Te.size (List.replicate m.toNat Te.z) .own)]⟩ ⟨[x,y].flatMap rdN,dN dst,[d],[d]⟩)
def oAppMk (P:Program) (x y:Operand) (dst:Option Nat):Option TypeId->Option Nat->AV->AV->Out
 | some e,some d,.val (.slice none 0 0),.val (.int _ m)=>if (ty P e).okz=true/\0<(ty P e).bytes/\0<(ty P e).size then oMk e (ty P e) x y dst m d else .fail
 | _,_,_,_=>.fail
theorem oAppMk_ok {P:Program} {W:World} {σ:AS} {o:Oper} {T U:TypeId} {x y:Operand} (ho:o.op=.call {callee:=.builtin .append,args:=#[x,y],argTypes:=#[T,U]}) {j:IntKind} (hU:(ty P U).ik=some j) {nm:Option Nat} (hnm:∀ k,nm=some k->hg σ.h k=none) :
 OutOK P W o σ (oAppMk P x y o.dst (ty P T).el nm (evL σ x) (evL σ y)):=by
 show OutOK P W o σ (oAppMk P x y o.dst (ty P T).el (id nm) (evL σ x) (evL σ y))
 unfold oAppMk
 split
 ·rename_i e d k m hel hd hx hy
  split
  ·rename_i hc
   obtain ⟨i,z,h1,h2,h3,h4,h5,h6,h7⟩:=ty_zero hc.1
   intro hq
   have hmm:((m.toNat:Nat):Int)=m:=by omega
   have:=ok_appendMk (P:=P) (t:=σ.den.t) (d:=d) (k:=k) (m:=m.toNat) ho (ty_el hel) (ty_ik hU) h1 h6.symm hc.2.2 h2 (by rw [h6];exact h3) h4 (by rw [<-h7];exact hc.2.1) (by rw [evL_den];exact hx) (by rw [evL_den,hmm];exact hy) (by omega) (by rw [<-h7];exact hq.2)
   rw [<-h5] at this
   exact outOK_w (P:=P) (W:=W) (σ:=σ) [(x,.val (.slice none 0 0)),(y,.val (.int k m.toNat))] [(d,none)] [(d,.arr e (ty P e).size (List.replicate m.toNat (ty P e).z) .own)] this rfl (by simp only [List.mem_cons,List.not_mem_nil,or_false];rintro p (rfl|rfl);exact hx;rw [hmm];exact hy) (by simpa using hnm _ hd) (ys:=[x,y]) (rhN:=[d]) (whN:=[d]) rfl rfl rfl
  ·trivial
 ·trivial
def oCap (T:Ty) (x:Operand) (dst:Option Nat):AV->Out
 | .val (.slice none 0 0)=>if T.el.isSome=true then oV [x] [] dst (.val (.int .i64 0)) else .fail
 | _=>.fail
theorem oCap_ok {P:Program} {W:World} {σ:AS} {o:Oper} {T:TypeId} {x:Operand} (ho:o.op=.call {callee:=.builtin .cap,args:=#[x],argTypes:=#[T]}):OutOK P W o σ (oCap (ty P T) x o.dst (evL σ x)):=by
 unfold oCap
 split
 ·rename_i hx
  split
  ·rename_i hT
   obtain ⟨e,he⟩:=Option.isSome_iff_exists.1 hT
   refine outOK_v [(x,.val (.slice none 0 0))] [] (localOKn (t:=σ.den.t) [(x,.val (.slice none 0 0))] [] _ (by simp only [List.mem_cons,List.not_mem_nil,or_false];rintro p rfl;rw [evL_den];exact hx) fun E τ a w β I r hR _=>?_) (by simpa using hx) (by simp) rfl rfl
   have h0:=(hR (x,.val (.slice none 0 0)) (by simp)).val_inv
   simp only at h0
   exact ⟨.int .i64 0,by simp [execOp,ho,resolve,invoke,builtin,h0,Builtin.cap_,run_underlying (ty_el he),goInt],.val _ _⟩
  ·trivial
 ·trivial
end Go.Ac

namespace Go.Ac
open Go
theorem run_cut0 {P:Program} {w:World} {len cap:Nat} {lo:Option Value} {k k':IntKind} (hlo:lo=none\/∃ k,lo=some (.int k 0)) :
 (Instr.sliceBounds true len cap lo (some (.int k 0)) (some (.int k' 0))).run P w=.ok (0,0,0) w:=by
 unfold Instr.sliceBounds
 rcases hlo with rfl|⟨j,rfl⟩
 ·simp [run_sliceBound (P:=P) (w:=w) (i:=0) (y:=cap) (by omega) (by omega),run_sliceBound (P:=P) (w:=w) (i:=0) (y:=0) (by omega) (by omega)]
 ·simp [run_sliceBound (P:=P) (w:=w) (i:=0) (y:=cap) (by omega) (by omega),run_sliceBound (P:=P) (w:=w) (i:=0) (y:=0) (by omega) (by omega)]
def isSlV:AV->Bool
 | .sl _ _ _=>true
 | .gs _ _ _=>true
 | _=>false
theorem isSlV_spec {β:Nat->Plc} {D I:Nat->Prop} {H:Array Obj} {m:Bool} {X:AV} {v:Value} (h:R β D I H m X v) (hX:isSlV X=true):∃ a len cap,v=.slice a len cap:=by
 cases h<;>simp [isSlV] at hX<;>exact ⟨_,_,_,rfl⟩
def loXs (σ:AS):Option Operand->Option (List (Operand×AV))
 | none=>some []
 | some y=>match evL σ y with
  | .val (.int k 0)=>some [(y,.val (.int k 0))]
  | _=>none
theorem ok_slice3 {P:Program} {o:Oper} {σ:AS} {T e:TypeId} {i:TypeInfo} {x hi mx:Operand} {lo:Option Operand} {X:AV} {n d:Nat} {k k':IntKind} {los:List (Operand×AV)}
 (ho:o.op=.slice T x lo (some hi) (some mx)) (hT:P.underlying T=some (.slice e)) (hi':P.info? e=some i) (hn:i.size=n) (hn0:0<n)
 (hx:evL σ x=X) (hX:isSlV X=true) (hh:evL σ hi=.val (.int k 0)) (hm:evL σ mx=.val (.int k' 0)) (hl:loXs σ lo=some los) :
 LocalOK P o {rt:=rds ((x,X)::(hi,.val (.int k 0))::(mx,.val (.int k' 0))::los),rh:=[(d,none)],dst:=o.dst,v:=.gs d 0 0,wh:=[(d,some (.arr e n [] .own))]}:=by
 intro E τ a w K Q hN hr ⟨β,I,r⟩ hkk
 have hlos:∀ p ∈ los,evA σ.den.t p.1=p.2:=by
  unfold loXs at hl
  split at hl
  ·cases hl;simp
  ·split at hl
   ·rename_i hy;cases hl;simp only [List.mem_cons,List.not_mem_nil,or_false];rintro p rfl;rw [evL_den];exact hy
   ·cases hl
 have get:∀ y Y,(y,Y) ∈ ((x,X)::(hi,AV.val (.int k 0))::(mx,AV.val (.int k' 0))::los)->evA σ.den.t y=Y->R β (dom τ.h) I w.heap true Y (a.eval y):=fun y Y hy he =>
  R_ev r (ev_reads he (fun p hp=>hr.1 p (List.mem_flatMap.2 ⟨_,hy,hp⟩)))
 have hX':=get x X (by simp) (by rw [evL_den];exact hx)
 have hH:=(get hi (.val (.int k 0)) (by simp) (by rw [evL_den];exact hh)).val_inv
 have hM:=(get mx (.val (.int k' 0)) (by simp) (by rw [evL_den];exact hm)).val_inv
 have hd0:=hr.2 (d,none) (by simp)
 simp only at hd0
 obtain ⟨ad,len,cap,hv⟩:=isSlV_spec hX' hX
 have hlo:lo.map a.eval=none\/∃ k,lo.map a.eval=some (.int k 0):=by
  unfold loXs at hl
  split at hl
  ·exact .inl rfl
  ·rename_i y
   split at hl
   ·rename_i j hy
    cases hl
    exact .inr ⟨j,by simpa using (get y (.val (.int j 0)) (by simp) (by rw [evL_den];exact hy)).val_inv⟩
   ·cases hl
 have hb:=run_cut0 (P:=P) (w:=w) (len:=len) (cap:=cap) (k:=k) (k':=k') hlo
 have hrun:(execOp a.eval o).run P w=.ok (.value (.slice ad 0 0)) w:=by
  simp only [execOp,ho,hv,hH,hM,Option.map_some,Instr.sliceAt,Instr.slice,Sem.run_bind,run_underlying hT,Result.andThen_ok,hb,run_sizeOf' hi',Sem.run_pure,if_true,Nat.sub_self]
 unfold Oper.wp
 rw [hrun,Oper.upon_value]
 refine hkk _ _ ⟨_,I,r.phantom (dst:=o.dst) (X:=.gs d 0 0) (e:=e) hd0 hn0 hN ?_⟩
 exact .gs (by simp only [dom,hput_same,Option.isSome_some]) (by simp) (by unfold maxLen;simp) (.inl ⟨rfl,by rw [bset_same];simp⟩)
def oSlice3 (P:Program) (σ:AS) (x hi mx:Operand) (lo:Option Operand) (dst:Option Nat):Option TypeId->Option Nat->AV->AV->AV->Option (List (Operand×AV))->Out
 | some e,some d,.val (.slice none 0 0),.val (.int _ 0),.val (.int _ 0),some los=>if (ty P e).ok=true then oV (x::hi::mx::los.map (·.1)) [] dst (.val (.slice none 0 0)) else .fail
 | some e,some d,X,.val (.int _ 0),.val (.int _ 0),some los =>
  if (ty P e).ok=true/\0<(ty P e).size/\isSlV X=true then .eff ⟨dst,.gs d 0 0,[(d,.arr e (ty P e).size [] .own)]⟩ ⟨(x::hi::mx::los.map (·.1)).flatMap rdN,dN dst,[d],[d]⟩ else .fail
 | _,_,_,_,_,_=>.fail
theorem loXs_mem {σ:AS} {lo:Option Operand} {los:List (Operand×AV)} (hl:loXs σ lo=some los):∀ p ∈ los,evL σ p.1=p.2:=by
 unfold loXs at hl
 split at hl
 ·cases hl;simp
 ·split at hl
  ·rename_i hy;cases hl;simp only [List.mem_cons,List.not_mem_nil,or_false];rintro p rfl;exact hy
  ·cases hl
theorem oSlice3_ok {P:Program} {W:World} {σ:AS} {o:Oper} {T:TypeId} {x hi mx:Operand} {lo:Option Operand} (ho:o.op=.slice T x lo (some hi) (some mx)) {nm:Option Nat} (hnm:∀ k,nm=some k->hg σ.h k=none) :
 OutOK P W o σ (oSlice3 P σ x hi mx lo o.dst (ty P T).el nm (evL σ x) (evL σ hi) (evL σ mx) (loXs σ lo)):=by
 unfold oSlice3
 split
 ·rename_i e d k k' los hel hx hh hm hl
  split
  ·rename_i hok
   obtain ⟨dd,i,hd,h1,he⟩:=ty_ok hok
   refine outOK_v ((x,.val (.slice none 0 0))::(hi,.val (.int k 0))::(mx,.val (.int k' 0))::los) [] (localOKn (t:=σ.den.t) ((x,.val (.slice none 0 0))::(hi,.val (.int k 0))::(mx,.val (.int k' 0))::los) [] _ (by
    intro p hp
    rw [evL_den]
    simp only [List.mem_cons] at hp
    rcases hp with rfl|rfl|rfl|hp
    ·exact hx
    ·exact hh
    ·exact hm
    ·exact loXs_mem hl p hp) fun E τ a w β I r hR _=>?_) (by
     intro p hp
     simp only [List.mem_cons] at hp
     rcases hp with rfl|rfl|rfl|hp
     ·exact hx
     ·exact hh
     ·exact hm
     ·exact loXs_mem hl p hp) (by simp) (by simp) rfl
   have h0:=(hR (x,.val (.slice none 0 0)) (by simp)).val_inv
   have hH:=(hR (hi,.val (.int k 0)) (by simp)).val_inv
   have hM:=(hR (mx,.val (.int k' 0)) (by simp)).val_inv
   simp only at h0 hH hM
   have hlo:lo.map a.eval=none\/∃ k,lo.map a.eval=some (.int k 0):=by
    unfold loXs at hl
    split at hl
    ·exact .inl rfl
    ·rename_i y
     split at hl
     ·rename_i j hy
      cases hl
      exact .inr ⟨j,by simpa using (hR (y,.val (.int j 0)) (by simp)).val_inv⟩
     ·cases hl
   have hb:=run_cut0 (P:=P) (w:=w) (len:=0) (cap:=0) (k:=k) (k':=k') hlo
   refine ⟨.slice none 0 0,?_,.val _ _⟩
   simp only [execOp,ho,h0,hH,hM,Option.map_some,Instr.sliceAt,Instr.slice,Sem.run_bind,run_underlying (ty_el hel),Result.andThen_ok,hb,run_sizeOf' h1,Sem.run_pure,if_true,Nat.sub_self]
  ·trivial
 ·rename_i e d k k' los hel hh hm hl hne
  split
  ·rename_i hc
   obtain ⟨dd,i,hd,h1,he⟩:=ty_ok hc.1
   have h2:(ty P e).size=i.size:=by rw [he,tyD_size]
   have:=ok_slice3 (P:=P) (σ:=σ) (d:=d) (k:=k) (k':=k') ho (ty_el hel) h1 h2.symm hc.2.1 rfl hc.2.2 hh hm hl
   refine outOK_w (P:=P) (W:=W) (σ:=σ) ((x,evL σ x)::(hi,.val (.int k 0))::(mx,.val (.int k' 0))::los) [(d,none)] [(d,.arr e (ty P e).size [] .own)] this rfl (by
    intro p hp
    simp only [List.mem_cons] at hp
    rcases hp with rfl|rfl|rfl|hp
    ·rfl
    ·exact hh
    ·exact hm
    ·exact loXs_mem hl p hp) (by simpa using hnm _ rfl) (ys:=x::hi::mx::los.map (·.1)) (rhN:=[d]) (whN:=[d]) (by simp) rfl rfl
  ·trivial
 ·trivial
end Go.Ac

namespace Go.Ac
open Go
theorem nilAhead_run {P:Program} {w:World} {t:TypeId} {name:String} {f:FuncId} {v:Value} {n:Nat} (h:meth P t name=some f):(nilAhead (n+1) t v name).run P w=.ok (some false) w:=by
 unfold meth at h
 split at h
 case h_2=>cases h
 rename_i i hi
 split at h
 case h_2=>cases h
 rename_i m hm
 split at h
 case isFalse=>cases h
 rename_i hp
 have hi':=run_typeInfo (P:=P) (w:=w) hi
 split at h
 ·rename_i f' e hf hu
  cases h
  simp [nilAhead,hi',hm,hp,followBlind,hf,run_underlying hu]
 ·cases h
 ·rename_i f' d hne hf hu
  cases h
  cases d<;>first
   | (exact absurd rfl (hne _))
   | (simp [nilAhead,hi',hm,hp,followBlind,hf,run_underlying hu])
 ·cases h
def oNilX (P:Program) (x:Operand) (dst:Option Nat):AV->Out
 | .fn (.method name) (.ifc t y::fs) cs=>if (meth P t name).isSome=true then oV [x] [] dst (.fn (.method name) (.ifc t y::fs) cs) else .fail
 | a=>oNilCheck x dst a
theorem oNilX_ok {P:Program} {W:World} {σ:AS} {o:Oper} {x:Operand} (ho:o.op=.nilCheck x):OutOK P W o σ (oNilX P x o.dst (evL σ x)):=by
 unfold oNilX
 split
 ·rename_i name t y fs cs hx
  split
  ·rename_i hm
   obtain ⟨f,hm⟩:=Option.isSome_iff_exists.1 hm
   refine outOK_v (prs σ [x]) [] (localOKn (t:=σ.den.t) _ [] _ (prs_den σ _) fun E τ a w β I r hR _=>?_) (prs_ev σ _) (by simp) (prs_fst σ _) rfl
   have h0:=hR _ (prs_mem (σ:=σ) (l:=[x]) (x:=x) (by simp))
   simp only at h0
   rw [hx] at h0
   obtain ⟨vs,us,h1,h2,h3⟩:=h0.fn_inv
   refine ⟨a.eval x,?_,h0⟩
   cases h2 with
   | cons g1 g2 =>
    cases g1 with
    | ifc g3 =>
     obtain ⟨n,hn⟩:∃ n,P.types.size+Made.depth=n+1:=⟨P.types.size+Made.depth - 1,by unfold Made.depth;omega⟩
     simp [execOp,ho,h1,run_program,hn,nilAhead_run hm]
  ·trivial
 ·exact oNilCheck_ok ho
end Go.Ac

namespace Go.Ac
open Go
def oBuildSlice (P:Program) (σ:AS) (len:Nat) (ps:List (Nat×Operand)) (dst:Option Nat):Option TypeId->Option Nat->Out
 | some e,some k =>
  if (ty P e).okz=true/\0<(ty P e).size/\ps.length=len/\len * (ty P e).size<=16777216/\fullParts (ty P e).size (avL σ ps) 0=true then
   .eff ⟨dst,.gs k 0 len,[(k,.arr e (ty P e).size ((avL σ ps).map (·.2)) .own)]⟩ ⟨(ps.map (·.2)).flatMap rdN,dN dst,[k],[k]⟩
  else .fail
 | _,_=>.fail
theorem oBuildSlice_ok {P:Program} {W:World} {σ:AS} {o:Oper} {T:TypeId} {len:Nat} {ps:Array (Nat×Operand)} (ho:o.op=.buildSlice T len ps) {m:Option Nat} (hm:∀ k,m=some k->hg σ.h k=none) :
 OutOK P W o σ (oBuildSlice P σ len ps.toList o.dst (ty P T).el m):=by
 show OutOK P W o σ (oBuildSlice P σ len ps.toList o.dst (ty P T).el (id m))
 unfold oBuildSlice
 split
 ·rename_i e k hel hk
  split
  ·rename_i hc
   obtain ⟨i,z,h1,h2,h3,h4,h5,h6,h7⟩:=ty_zero hc.1
   have:=ok_buildSlice (P:=P) (t:=σ.den.t) (d:=k) ho (ty_el hel) h1 h6.symm hc.2.1 h2 (by rw [h6];exact h3) h4 (by simpa using hc.2.2.1) hc.2.2.2.1 (by rw [avL_eq];exact hc.2.2.2.2) rfl
   rw [avL_eq] at this
   exact outOK_w (P:=P) (W:=W) (σ:=σ) (arts σ.den.t ps.toList) [(k,none)] [(k,.arr e (ty P e).size ((avL σ ps.toList).map (·.2)) .own)] this rfl (arts_ev σ _) (by simpa using hm _ hk) (rhN:=[k]) (whN:=[k]) (arts_fst _ _) rfl rfl
  ·trivial
 ·trivial
def oMakeSlice (P:Program) (x y:Operand) (dst:Option Nat):Option TypeId->Option Nat->AV->AV->Out
 | some e,some k,.val (.int _ l),.val (.int _ c) =>
  if (ty P e).okz=true/\0<(ty P e).size then
   .req (0<=l/\l<=c) (.req (((ty P e).bytes:Int) * c<=281474976710656/\c<=9223372036854775807)
    (.eff ⟨dst,.gs k 0 l.toNat,[(k,.arr e (ty P e).size (List.replicate l.toNat (ty P e).z) .own)]⟩ ⟨[x,y].flatMap rdN,dN dst,[k],[k]⟩))
  else .fail
 | _,_,_,_=>.fail
theorem oMakeSlice_ok {P:Program} {W:World} {σ:AS} {o:Oper} {T:TypeId} {x y:Operand} (ho:o.op=.makeSlice T x y) {m:Option Nat} (hm:∀ k,m=some k->hg σ.h k=none) :
 OutOK P W o σ (oMakeSlice P x y o.dst (ty P T).el m (evL σ x) (evL σ y)):=by
 show OutOK P W o σ (oMakeSlice P x y o.dst (ty P T).el (id m) (evL σ x) (evL σ y))
 unfold oMakeSlice
 split
 ·rename_i e k k1 l k2 c hel hk hx hy
  split
  ·rename_i hc
   obtain ⟨i,z,h1,h2,h3,h4,h5,h6,h7⟩:=ty_zero hc.1
   intro hl hb
   have:=ok_makeSlice (P:=P) (t:=σ.den.t) (d:=k) ho (ty_el hel) h1 h6.symm hc.2 h2 (by rw [h6];exact h3) h4 (by rw [evL_den];exact hx) (by rw [evL_den];exact hy) hl.1 hl.2 (by rw [<-h7];exact hb.1) hb.2
   rw [<-h5] at this
   exact outOK_w (P:=P) (W:=W) (σ:=σ) [(x,.val (.int k1 l)),(y,.val (.int k2 c))] [(k,none)] [(k,.arr e (ty P e).size (List.replicate l.toNat (ty P e).z) .own)] this rfl (by simpa using ⟨hx,hy⟩) (by simpa using hm _ hk) (ys:=[x,y]) (rhN:=[k]) (whN:=[k]) rfl rfl rfl
  ·trivial
 ·trivial
def oStoreB (T:Ty) (x y:Operand) (k c:Nat) (Y:AV):Option GE->Out
 | some (.box el .own)=>if Y.sto=true/\Y.flat.length=T.size/\c+T.size<=el.flat.length then .eff ⟨none,.top,[(k,.box (stV el c Y) .own)]⟩ ⟨[x,y].flatMap rdN,[],[k],[k]⟩ else .fail
 | _=>.fail
def oStoreE (T:Ty) (x y:Operand) (k j c:Nat) (Y:AV) (e:TypeId) (n:Nat) (els:List AV):Option AV->Out
 | some el=>if Y.sto=true/\Y.flat.length=T.size/\c+T.size<=n then .eff ⟨none,.top,[(k,.arr e n (els.set j (stV el c Y)) .own)]⟩ ⟨[x,y].flatMap rdN,[],[k],[k]⟩ else .fail
 | none=>.fail
def oStoreA (T:Ty) (x y:Operand) (k j c:Nat) (Y:AV):Option GE->Out
 | some (.arr e n els .own)=>.opt (els[j]?) (oStoreE T x y k j c Y e n els)
 | _=>.fail
def oStore (T:Ty) (σ:AS) (x y:Operand) (Y:AV):AV->Out
 | .gp k c=>if T.ok=true then oStoreB T x y k c Y (hg σ.h k) else .fail
 | .ge k j c=>if T.ok=true then oStoreA T x y k j c Y (hg σ.h k) else .fail
 | _=>.fail
theorem oStore_ok {P:Program} {W:World} {σ:AS} {o:Oper} {T:TypeId} {x y:Operand} (ho:o.op=.store T x y) (hd:o.dst=none):OutOK P W o σ (oStore (ty P T) σ x y (evL σ y) (evL σ x)):=by
 unfold oStore
 split
 ·rename_i k c hx
  split
  ·rename_i hT
   obtain ⟨d,i,hdd,hi,he⟩:=ty_ok hT
   have hsz:(ty P T).size=i.size:=by rw [he,tyD_size]
   cases hb:hg σ.h k with
   | none=>simp only [oStoreB];trivial
   | some g =>
    cases g with
    | arr e n els st=>simp only [oStoreB];trivial
    | map es st=>simp only [oStoreB];trivial
    | iter s p=>simp only [oStoreB];trivial
    | dead=>simp only [oStoreB];trivial
    | box el st =>
     cases st<;>simp only [oStoreB]<;>try trivial
     split
     ·rename_i hc
      rw [hsz] at hc
      exact outOK_w (P:=P) (W:=W) (σ:=σ) [(x,.gp k c),(y,evL σ y)] [(k,some (.box el .own))] [(k,.box (stV el c (evL σ y)) .own)] (ok_storeBox ho hd hi (by rw [evL_den];exact hx) (evL_den σ y) hc.1 hc.2.1 hc.2.2) hd.symm (by simpa using hx) (by simpa using hb) (ys:=[x,y]) (rhN:=[k]) (whN:=[k]) rfl rfl rfl
     ·trivial
  ·trivial
 ·rename_i k j c hx
  split
  ·rename_i hT
   obtain ⟨d,i,hdd,hi,he⟩:=ty_ok hT
   have hsz:(ty P T).size=i.size:=by rw [he,tyD_size]
   cases hb:hg σ.h k with
   | none=>simp only [oStoreA];trivial
   | some g =>
    cases g with
    | box el st=>simp only [oStoreA];trivial
    | map es st=>simp only [oStoreA];trivial
    | iter s p=>simp only [oStoreA];trivial
    | dead=>simp only [oStoreA];trivial
    | arr e n els st =>
     cases st<;>simp only [oStoreA]<;>try trivial
     simp only [OutOK]
     cases hel:els[j]? with
     | none=>simp only [oStoreE];trivial
     | some el =>
      simp only [oStoreE]
      split
      ·rename_i hc
       rw [hsz] at hc
       exact outOK_w (P:=P) (W:=W) (σ:=σ) [(x,.ge k j c),(y,evL σ y)] [(k,some (.arr e n els .own))] [(k,.arr e n (els.set j (stV el c (evL σ y))) .own)] (ok_storeGe ho hd hi (by rw [evL_den];exact hx) (evL_den σ y) hc.1 hc.2.1 hel hc.2.2) hd.symm (by simpa using hx) (by simpa using hb) (ys:=[x,y]) (rhN:=[k]) (whN:=[k]) rfl rfl rfl
      ·trivial
  ·trivial
 ·trivial
def srcG (i len:Nat) (k:Nat):Option GE->Option (List AV×Option Nat×List Nat×Bool)
 | some (.arr _ n els _)=>some ((els.drop i).take len,some n,[k],decide (i+len<=els.length))
 | _=>none
def srcO (σ:AS):AV->Option (List AV×Option Nat×List Nat×Bool)
 | .sl n els _=>some (els,some n,[],true)
 | .str l=>some (bytesA l,some 1,[],true)
 | .val (.slice none 0 0)=>some ([],none,[],true)
 | .val (.slice (some _) 0 _)=>some ([],none,[],true)
 | .gs k i len=>srcG i len k (hg σ.h k)
 | _=>none
theorem srcO_ok {σ:AS} {Y:AV} {xs:List AV} {q:Option Nat} {ks:List Nat} {c:Bool} (h:srcO σ Y=some (xs,q,ks,c)) (hc:c=true) (n:Nat) (hq:∀ m,q=some m->m=n) :
 srcV (hg σ.h) Y=some xs/\srcN (hg σ.h) n Y/\keys (srcH (hg σ.h) Y)=ks:=by
 unfold srcO at h
 split at h
 ·cases h;exact ⟨rfl,hq _ rfl,rfl⟩
 ·cases h;exact ⟨rfl,(hq _ rfl).symm,rfl⟩
 ·cases h;exact ⟨rfl,trivial,rfl⟩
 ·cases h;exact ⟨rfl,trivial,rfl⟩
 ·rename_i k i len
  cases hk:hg σ.h k with
  | none=>rw [hk] at h;cases h
  | some g =>
   cases g with
   | box el st=>rw [hk] at h;cases h
   | map es st=>rw [hk] at h;cases h
   | iter s p=>rw [hk] at h;cases h
   | dead=>rw [hk] at h;cases h
   | arr e m els st =>
    rw [hk] at h
    simp only [srcG] at h
    cases h
    have hle:=of_decide_eq_true hc
    refine ⟨by simp only [srcV,hk,if_pos hle],by simp only [srcN,hk];exact hq _ rfl,rfl⟩
 ·cases h
def oAppG (P:Program) (e:TypeId) (x y:Operand) (dst:Option Nat) (k len d:Nat) (xs:List AV) (ks:List Nat):Option GE->Out
 | some (.arr e' n els st) =>
  if e=e'/\n=(ty P e).size/\k ≠ d then
   .req ((st=.own\/st=.shr/\len=els.length)/\len<=els.length) (.req ((len+xs.length) * (ty P e).bytes<=140737488355328)
    (.eff ⟨dst,.gs d 0 (len+xs.length),[(k,.arr e n (els.take len) .sld),(d,.arr e n (els.take len++xs) .shr)]⟩ ⟨[x,y].flatMap rdN,dN dst,k::d::ks,[k,d]⟩))
  else .fail
 | _=>.fail
def apU (T:Ty):Option Unit:=match T.el with|some _=>some ()|none=>if T.str=true then some () else none
theorem apU_spec {P:Program} {U:TypeId} {u:Unit} (h:apU (ty P U)=some u):∃ du,P.underlying U=some du/\((∃ e',du=.slice e')\/du=.string):=by
 unfold apU at h
 split at h
 ·rename_i e' he;exact ⟨_,ty_el he,.inl ⟨e',rfl⟩⟩
 ·split at h
  ·rename_i hs;exact ⟨_,ty_str hs,.inr rfl⟩
  ·cases h
def oApp (P:Program) (σ:AS) (x y:Operand) (dst:Option Nat) (X:AV):Option TypeId->Option Unit->Option Nat->Option (List AV×Option Nat×List Nat×Bool)->Out
 | some e,some _,some d,some (xs,q,ks,c) =>
  if (ty P e).okz=true/\0<(ty P e).bytes/\0<(ty P e).size/\(q=none\/q=some (ty P e).size) then
   .req (c=true) <| match X with
   | .gs k 0 len=>oAppG P e x y dst k len d xs ks (hg σ.h k)
   | .val (.slice none 0 0)=>.req (xs.length * (ty P e).bytes<=140737488355328)
    (.eff ⟨dst,.gs d 0 xs.length,[(d,.arr e (ty P e).size xs .own)]⟩ ⟨[x,y].flatMap rdN,dN dst,d::ks,[d]⟩)
   | _=>.fail
  else .fail
 | _,_,_,_=>.fail
theorem oApp_ok {P:Program} {W:World} {σ:AS} {o:Oper} {T U:TypeId} {x y:Operand} (ho:o.op=.call {callee:=.builtin .append,args:=#[x,y],argTypes:=#[T,U]}) {nm:Option Nat} (hnm:∀ k,nm=some k->hg σ.h k=none) :
 OutOK P W o σ (oApp P σ x y o.dst (evL σ x) (ty P T).el (apU (ty P U)) nm (srcO σ (evL σ y))):=by
 show OutOK P W o σ (oApp P σ x y o.dst (evL σ x) (ty P T).el (apU (ty P U)) (id nm) (srcO σ (evL σ y)))
 unfold oApp
 split
 ·rename_i e e' d xs q ks c hel hel' hd hs
  split
  ·rename_i hc
   intro hcc
   obtain ⟨i,z,h1,h2,h3,h4,h5,h6,h7⟩:=ty_zero hc.1
   obtain ⟨du,hU,hdu⟩:=apU_spec hel'
   obtain ⟨s1,s2,s3⟩:=srcO_ok hs hcc (ty P e).size (fun m hm=>by
    rcases hc.2.2.2 with h|h
    ·rw [h] at hm;cases hm
    ·rw [h] at hm;cases hm;rfl)
   split
   ·rename_i k len hx
    cases hb:hg σ.h k with
    | none=>simp only [oAppG];trivial
    | some g =>
     cases g with
     | box el st=>simp only [oAppG];trivial
     | map es st=>simp only [oAppG];trivial
     | iter s p=>simp only [oAppG];trivial
     | dead=>simp only [oAppG];trivial
     | arr e2 n els st =>
      simp only [oAppG]
      split
      ·rename_i hh
       obtain ⟨rfl,rfl,hkd⟩:=hh
       intro hst hfit
       have:=ok_append (P:=P) (t:=σ.den.t) (h:=hg σ.h) (d:=d) ho (ty_el hel) hU hdu h1 h6.symm h2 (by rw [h6];exact h3) (by rw [<-h7];exact hc.2.1) (by rw [evL_den];exact hx) (evL_den σ y) hb s1 s2 hst.1 hst.2 (by rw [<-h7];exact hfit)
       exact outOK_w (P:=P) (W:=W) (σ:=σ) [(x,.gs k 0 len),(y,evL σ y)] _ [(k,.arr e (ty P e).size (els.take len) .sld),(d,.arr e (ty P e).size (els.take len++xs) .shr)] this rfl (by simpa using hx) (by
        intro p hp
        simp only [List.mem_cons] at hp
        rcases hp with rfl|rfl|hp
        ·exact hb
        ·exact hnm _ hd
        ·have:∀ Y,∀ p ∈ srcH (hg σ.h) Y,hg σ.h p.1=p.2:=by
          intro Y;cases Y<;>simp [srcH]
         exact this _ p hp) (ys:=[x,y]) (whN:=[k,d]) rfl (by simp only [keys,List.map_cons];rw [<-s3];rfl) rfl
      ·trivial
   ·rename_i hx
    intro hfit
    have:=ok_appendNil (P:=P) (t:=σ.den.t) (h:=hg σ.h) (d:=d) ho (ty_el hel) hU hdu h1 h6.symm hc.2.2.1 h2 (by rw [h6];exact h3) (by rw [<-h7];exact hc.2.1) (by rw [evL_den];exact hx) (evL_den σ y) s1 s2 (by rw [<-h7];exact hfit)
    exact outOK_w (P:=P) (W:=W) (σ:=σ) [(x,.val (.slice none 0 0)),(y,evL σ y)] _ [(d,.arr e (ty P e).size xs .own)] this rfl (by simpa using hx) (by
     intro p hp
     simp only [List.mem_cons] at hp
     rcases hp with rfl|hp
     ·exact hnm _ hd
     ·have:∀ Y,∀ p ∈ srcH (hg σ.h) Y,hg σ.h p.1=p.2:=by
       intro Y;cases Y<;>simp [srcH]
      exact this _ p hp) (ys:=[x,y]) (whN:=[d]) rfl (by simp only [keys,List.map_cons];rw [<-s3];rfl) rfl
   ·trivial
  ·trivial
 ·trivial
def oCopyG (P:Program) (e:TypeId) (x y:Operand) (dst:Option Nat) (k i0 len:Nat) (xs:List AV) (ks:List Nat):Option GE->Out
 | some (.arr e' n els .own) =>
  if e=e'/\n=(ty P e).size then
   .req (i0+len<=els.length)
    (.eff ⟨dst,.val (.int .i64 (Nat.min xs.length len)),[(k,.arr e n (els.take i0++xs.take (Nat.min xs.length len)++els.drop (i0+Nat.min xs.length len)) .own)]⟩ ⟨[x,y].flatMap rdN,dN dst,k::ks,[k]⟩)
  else .fail
 | _=>.fail
def oCopy (P:Program) (σ:AS) (x y:Operand) (dst:Option Nat):AV->Option TypeId->Option (List AV×Option Nat×List Nat×Bool)->Out
 | .gs k i0 len,some e,some (xs,q,ks,c)=>if (ty P e).ok=true/\(q=none\/q=some (ty P e).size) then .req (c=true) (oCopyG P e x y dst k i0 len xs ks (hg σ.h k)) else .fail
 | _,_,_=>.fail
theorem oCopy_ok {P:Program} {W:World} {σ:AS} {o:Oper} {T U:TypeId} {x y:Operand} (ho:o.op=.call {callee:=.builtin .copy,args:=#[x,y],argTypes:=#[T,U]}) :
 OutOK P W o σ (oCopy P σ x y o.dst (evL σ x) (ty P T).el (srcO σ (evL σ y))):=by
 unfold oCopy
 split
 ·rename_i k i0 len e xs q ks c hx hel hs
  split
  ·rename_i hc
   intro hcc
   obtain ⟨dd,i,hdd,hi,he⟩:=ty_ok hc.1
   have hsz:(ty P e).size=i.size:=by rw [he,tyD_size]
   obtain ⟨s1,s2,s3⟩:=srcO_ok hs hcc (ty P e).size (fun m hm=>by
    rcases hc.2 with h|h
    ·rw [h] at hm;cases hm
    ·rw [h] at hm;cases hm;rfl)
   cases hb:hg σ.h k with
   | none=>simp only [oCopyG];trivial
   | some g =>
    cases g with
    | box el st=>simp only [oCopyG];trivial
    | map es st=>simp only [oCopyG];trivial
    | iter s p=>simp only [oCopyG];trivial
    | dead=>simp only [oCopyG];trivial
    | arr e2 n els st =>
     cases st<;>simp only [oCopyG]<;>try trivial
     split
     ·rename_i hh
      obtain ⟨rfl,rfl⟩:=hh
      intro hle
      have:=ok_copy (P:=P) (t:=σ.den.t) (h:=hg σ.h) ho (ty_el hel) hi hsz.symm (by rw [evL_den];exact hx) (evL_den σ y) hb s1 s2 hle rfl
      exact outOK_w (P:=P) (W:=W) (σ:=σ) [(x,.gs k i0 len),(y,evL σ y)] _ [(k,.arr e (ty P e).size (els.take i0++xs.take (Nat.min xs.length len)++els.drop (i0+Nat.min xs.length len)) .own)] this rfl (by simpa using hx) (by
       intro p hp
       simp only [List.mem_cons] at hp
       rcases hp with rfl|hp
       ·exact hb
       ·have:∀ Y,∀ p ∈ srcH (hg σ.h) Y,hg σ.h p.1=p.2:=by
         intro Y;cases Y<;>simp [srcH]
        exact this _ p hp) (ys:=[x,y]) (whN:=[k]) rfl (by simp only [keys,List.map_cons];rw [<-s3];rfl) rfl
     ·trivial
  ·trivial
 ·trivial
theorem ok_strBytes {P:Program} {o:Oper} {t:Nat->AV} {sT dT e:TypeId} {x:Operand} {l:List UInt8} {u:TypeDesc} (ho:o.op=.convert sT dT x) (hs:P.underlying sT=some u) (hd:P.underlying dT=some (.slice e))
 (he:P.underlying e=some (.int .u8)) (hx:evA t x=.str l) (hl:l.length<=maxLen):LocalOK P o {rt:=rds [(x,.str l)],rh:=[],dst:=o.dst,v:=.sl 1 (bytesA l) []}:=by
 intro E σ a w K Q hN hr ⟨β,I,r⟩ hk
 have hv:=(R_ev r (ev_reads hx (fun q hq=>hr.1 q (List.mem_flatMap.2 ⟨(x,.str l),by simp,hq⟩)))).str_inv
 have hsz:(⟨l.toArray⟩:ByteArray).size=l.length:=by simp [ByteArray.size]
 have hrun:(execOp a.eval o).run P w=.ok (.value (.slice (some ⟨w.heap.size,0,none⟩) l.length (grownCap w l.length 0 e))) (Lib.bytesWorld w e ⟨l.toArray⟩):=by
  have:=Lib.run_convert_string_bytes (P:=P) w sT dT e ⟨l.toArray⟩ hs hd he
  rw [hsz] at this
  simp [execOp,ho,hv,this]
 unfold Oper.wp
 rw [hrun,Oper.upon_value]
 refine hk _ _ ⟨β,fun b=>I b\/b=w.heap.size,?_⟩
 have hb:=grownCap_bound (w:=w) (old:=0) (e:=e) hl
 have hh:=Lib.bytesWorld_at_new w e ⟨l.toArray⟩
 have x:Ext I (fun b=>I b\/b=w.heap.size) w (Lib.bytesWorld w e ⟨l.toArray⟩):=by
  refine ⟨fun b hb=>Lib.bytesWorld_at_old w e _ b hb,by rw [Lib.bytesWorld_size];omega,?_,?_,?_,fun b hb=>.inl hb,fun b hb=>?_⟩
  ·rfl
  ·rfl
  ·rfl
  ·rw [Lib.bytesWorld_size]
   rcases hb with hb|hb
   ·have:=r.inv.imm b hb;exact ⟨by omega,fun _=>hb⟩
   ·exact ⟨by omega,fun h=>by omega⟩
 have hR:R β (dom σ.h) (fun b=>I b\/b=w.heap.size) (Lib.bytesWorld w e ⟨l.toArray⟩).heap true (.sl 1 (bytesA l) []) (.slice (some ⟨w.heap.size,0,none⟩) l.length (grownCap w l.length 0 e)):=by
  have hlen:(bytesA l).length=l.length:=by simp [bytesA]
  have hb':=hb
  rw [<-hlen] at hb' ⊢
  refine .sl (l.map fun b=>Value.int .u8 b.toNat) (.inr rfl) rfl hh ?_ (by simp) (by simpa using hb'.1) hb'.2 ?_ ?_ ?_
  ·intro y hy;simp only [bytesA,List.mem_map] at hy;obtain ⟨b,_,rfl⟩:=hy;rfl
  ·simp only [flats_bytesA,flats,List.append_nil];exact RL_bytesA l
  ·intro v hv;simp only [List.mem_map] at hv;obtain ⟨b,_,rfl⟩:=hv;rfl
  ·intro j v hv
   have hj:j<l.length:=by have:=(List.getElem?_eq_some_iff.1 hv).1;simpa using this
   rw [List.getElem?_map,List.getElem?_eq_getElem hj] at hv
   simp only [Option.map_some,Option.some.injEq] at hv
   subst hv
   simp [Lib.bytesCells,Array.getElem?_append,hj]
 have:=r.ext x hN hR
 simpa [SS.upd,hset] using this
def oStrB (sok:Bool) (x:Operand) (dst:Option Nat):Option IntKind->AV->Out
 | some .u8,.str l=>if sok=true then .req (l.length<=maxLen) (oV [x] [] dst (.sl 1 (bytesA l) [])) else .fail
 | _,_=>.fail
theorem RL_bytes_inv {β:Nat->Plc} {D I:Nat->Prop} {H:Array Obj} {m:Bool}:∀ {l:List UInt8} {vs:List Value},RL β D I H m (bytesA l) vs->vs=l.map fun b=>Value.int .u8 b.toNat
 | [],_,.nil _=>rfl
 | b::l,_,.cons h1 h2=>by
  have:=RL_bytes_inv (l:=l) h2
  rw [this,h1.val_inv];rfl
theorem ok_bytesStr {P:Program} {o:Oper} {t:Nat->AV} {h:Nat->Option GE} {sT dT e:TypeId} {x:Operand} {X:AV} {xs:List AV} {l:List UInt8} (ho:o.op=.convert sT dT x) (hs:P.underlying sT=some (.slice e)) (he:P.underlying e=some (.int .u8))
 (hd:P.underlying dT=some .string) (hx:evA t x=X) (hns:∀ l,X ≠ .str l) (hsv:srcV h X=some xs) (hsn:srcN h 1 X) (hl:unb xs=some l) :
 LocalOK P o {rt:=rds [(x,X)],rh:=srcH h X,dst:=o.dst,v:=.str l} :=
 localOKn [(x,X)] (srcH h X) _ (by simpa using hx) fun E σ a w β I r hR hrh=>by
  have hX:=hR (x,X) (by simp)
  simp only at hX
  obtain ⟨s1,s2⟩:=srcV_congr (h:=h) (h':=σ.h) (Y:=X) hrh
  obtain ⟨vs,hlen,hRL,hone,hfl,hnl,hrun,hsl⟩:=src_run (P:=P) (n:=1) r hX (s1.trans hsv) (by rw [s2];exact hsn)
  have hb:=unb_spec hl
  subst hb
  rw [flats_bytesA] at hRL
  have hvs:=RL_bytes_inv hRL
  have hll:(bytesA l).length=l.length:=by simp [bytesA]
  rcases hsl with ⟨l',rfl⟩|⟨base,cap,hv⟩
  ·exact absurd rfl (hns l')
  ·refine ⟨.string ⟨l.toArray⟩,?_,.str _ _⟩
   have hr:=hrun w rfl (bytesA l).length (Nat.le_refl _)
   rw [hv] at hr
   rw [Nat.mul_one,hll] at hr
   have htk:vs.take l.length=vs:=List.take_of_length_le (by rw [hvs];simp)
   rw [htk] at hr
   have key:(convert sT dT (.slice base l.length cap)).run P w=.ok (.string ⟨l.toArray⟩) w:=by
    rw [run_convert_bytes_string w sT dT e base l.length cap hs he hd]
    cases base with
    | none =>
     simp only [Builtin.firstCells,Sem.run_pure,Result.ok.injEq,and_true] at hr
     have:vs=[]:=by
      have:=congrArg Array.toList hr
      simpa using this.symm
     rw [this] at hvs
     have hl0:l=[]:=by
      cases l with
      | nil=>rfl
      | cons b l=>cases hvs
     subst hl0
     simp [Conv.bytesToString];rfl
    | some ad =>
     simp only [Builtin.firstCells,Nat.mul_one] at hr
     rw [hvs] at hr
     have e1:(l.map fun b=>Value.int .u8 b.toNat)=(l.map fun b=>(b.toNat:Int)).map (Value.int .u8):=by simp
     rw [e1] at hr
     rw [run_bytesToString w ad l.length cap _ hr,foldl_push_byteCells]
     have he0:ByteArray.empty.data=#[]:=rfl
     rw [he0];simp
   rw [hll] at hv
   simp only [execOp,ho,hv,Sem.run_bind,key,Result.andThen_ok,Sem.run_pure]
def isStrA:AV->Bool
 | .str _=>true
 | _=>false
def oBytesS2 (x:Operand) (dst:Option Nat) (xs:List AV) (ks:List Nat):Option (List UInt8)->Out
 | some l=>.eff ⟨dst,.str l,[]⟩ ⟨[x].flatMap rdN,dN dst,ks,[]⟩
 | none=>.fail
def oBytesS (x:Operand) (dst:Option Nat) (X:AV):Option IntKind->Option (List AV×Option Nat×List Nat×Bool)->Out
 | some .u8,some (xs,q,ks,c)=>if (q=none\/q=some 1)/\isStrA X=false then .req (c=true) (.unb xs (oBytesS2 x dst xs ks)) else .fail
 | _,_=>.fail
def elK (P:Program) (T:Ty):Option IntKind:=match T.el with|some e=>(ty P e).ik|none=>none
def oCv (P:Program) (σ:AS) (S T:TypeId) (x:Operand) (dst:Option Nat):Option TypeId->Out
 | some e=>oStrB (ty P S).ok x dst (ty P e).ik (evL σ x)
 | none=>if (ty P T).str=true then oBytesS x dst (evL σ x) (elK P (ty P S)) (srcO σ (evL σ x)) else oConv (ty P S).ok x dst (ty P T).ik (evL σ x)
theorem oBytesS_ok {P:Program} {W:World} {σ:AS} {o:Oper} {sT dT:TypeId} {x:Operand} (ho:o.op=.convert sT dT x) (hd:(ty P dT).str=true):OutOK P W o σ (oBytesS x o.dst (evL σ x) (elK P (ty P sT)) (srcO σ (evL σ x))):=by
 unfold oBytesS
 split
 ·rename_i xs q ks c hk hs
  split
  ·rename_i hc
   intro hcc
   simp only [OutOK]
   cases hu:unb xs with
   | none=>simp only [oBytesS2];trivial
   | some l =>
    simp only [oBytesS2]
    unfold elK at hk
    split at hk
    case h_2=>cases hk
    rename_i e hel
    obtain ⟨s1,s2,s3⟩:=srcO_ok hs hcc 1 (fun m hm=>by
     rcases hc.1 with h|h
     ·rw [h] at hm;cases hm
     ·rw [h] at hm;cases hm;rfl)
    exact outOK_w (P:=P) (W:=W) (σ:=σ) [(x,evL σ x)] (srcH (hg σ.h) (evL σ x)) [] (ok_bytesStr (t:=σ.den.t) (h:=hg σ.h) ho (ty_el hel) (ty_ik hk) (ty_str hd) (evL_den σ x) (fun l e=>by rw [e] at hc;simp [isStrA] at hc) s1 s2 hu) rfl (by simp) (by
     have:∀ Y,∀ p ∈ srcH (hg σ.h) Y,hg σ.h p.1=p.2:=by
      intro Y;cases Y<;>simp [srcH]
     exact this _) (ys:=[x]) (rhN:=ks) (whN:=[]) rfl s3 rfl
  ·trivial
 ·trivial
theorem oCv_ok {P:Program} {W:World} {σ:AS} {o:Oper} {sT dT:TypeId} {x:Operand} (ho:o.op=.convert sT dT x):OutOK P W o σ (oCv P σ sT dT x o.dst (ty P dT).el):=by
 cases hel:(ty P dT).el with
 | none =>
  simp only [oCv]
  split
  ·exact oBytesS_ok ho ‹_›
  ·exact oConv_ok ho
 | some e =>
  simp only [oCv]
  unfold oStrB
  split
  ·rename_i l hk hx
   split
   ·rename_i hs
    intro hl
    obtain ⟨d,i,hd,hi,he⟩:=ty_ok hs
    exact outOK_v [(x,.str l)] [] (ok_strBytes ho hd (ty_el hel) (ty_ik hk) (by rw [evL_den];exact hx) hl) (by simpa using hx) (by simp) rfl rfl
   ·trivial
  ·trivial
theorem ok_min {P:Program} {o:Oper} {t:Nat->AV} {T U:TypeId} {x y:Operand} {k j:IntKind} {m n:Int} (ho:o.op=.call {callee:=.builtin .min,args:=#[x,y],argTypes:=#[T,U]})
 (hx:evA t x=.val (.int k m)) (hy:evA t y=.val (.int j n)):LocalOK P o {rt:=rds [(x,.val (.int k m)),(y,.val (.int j n))],rh:=[],dst:=o.dst,v:=.val (.int k (if n<m then n else m))} :=
 localOKn [(x,.val (.int k m)),(y,.val (.int j n))] [] _ (by simpa using ⟨hx,hy⟩) fun E σ a w β I _ hR _=>by
  have h1:=(hR (x,.val (.int k m)) (by simp)).val_inv
  have h2:=(hR (y,.val (.int j n)) (by simp)).val_inv
  simp only at h1 h2
  exact ⟨.int k (if n<m then n else m),by simp [execOp,ho,resolve,invoke,builtin,h1,h2,Builtin.min_,Builtin.min2],.val _ _⟩
theorem ok_max {P:Program} {o:Oper} {t:Nat->AV} {T U:TypeId} {x y:Operand} {k j:IntKind} {m n:Int} (ho:o.op=.call {callee:=.builtin .max,args:=#[x,y],argTypes:=#[T,U]})
 (hx:evA t x=.val (.int k m)) (hy:evA t y=.val (.int j n)):LocalOK P o {rt:=rds [(x,.val (.int k m)),(y,.val (.int j n))],rh:=[],dst:=o.dst,v:=.val (.int k (if n > m then n else m))} :=
 localOKn [(x,.val (.int k m)),(y,.val (.int j n))] [] _ (by simpa using ⟨hx,hy⟩) fun E σ a w β I _ hR _=>by
  have h1:=(hR (x,.val (.int k m)) (by simp)).val_inv
  have h2:=(hR (y,.val (.int j n)) (by simp)).val_inv
  simp only at h1 h2
  exact ⟨.int k (if n > m then n else m),by simp [execOp,ho,resolve,invoke,builtin,h1,h2,Builtin.max_,Builtin.max2],.val _ _⟩
def oMin (x y:Operand) (dst:Option Nat):AV->AV->Out
 | .val (.int k m),.val (.int _ n)=>oV [x,y] [] dst (.val (.int k (if n<m then n else m)))
 | _,_=>.fail
def oMax (x y:Operand) (dst:Option Nat):AV->AV->Out
 | .val (.int k m),.val (.int _ n)=>oV [x,y] [] dst (.val (.int k (if n > m then n else m)))
 | _,_=>.fail
theorem oMin_ok {P:Program} {W:World} {σ:AS} {o:Oper} {T U:TypeId} {x y:Operand} (ho:o.op=.call {callee:=.builtin .min,args:=#[x,y],argTypes:=#[T,U]}):OutOK P W o σ (oMin x y o.dst (evL σ x) (evL σ y)):=by
 unfold oMin
 split
 ·rename_i k m j n hx hy
  exact outOK_v [(x,.val (.int k m)),(y,.val (.int j n))] [] (ok_min ho (by rw [evL_den];exact hx) (by rw [evL_den];exact hy)) (by simpa using ⟨hx,hy⟩) (by simp) rfl rfl
 ·trivial
theorem oMax_ok {P:Program} {W:World} {σ:AS} {o:Oper} {T U:TypeId} {x y:Operand} (ho:o.op=.call {callee:=.builtin .max,args:=#[x,y],argTypes:=#[T,U]}):OutOK P W o σ (oMax x y o.dst (evL σ x) (evL σ y)):=by
 unfold oMax
 split
 ·rename_i k m j n hx hy
  exact outOK_v [(x,.val (.int k m)),(y,.val (.int j n))] [] (ok_max ho (by rw [evL_den];exact hx) (by rw [evL_den];exact hy)) (by simpa using ⟨hx,hy⟩) (by simp) rfl rfl
 ·trivial
def oBuiltin (P:Program) (σ:AS) (b:Builtin) (m dst:Option Nat):List Operand->List TypeId->Out
 | [x],[T]=>match b with
  | .len=>if isMapT P T=true then oLenM σ x dst (evL σ x) else oLen (ty P T) x dst (evL σ x)
  | .clear=>oClear P σ x dst (ty P T).el (evL σ x)
  | .cap=>oCap (ty P T) x dst (evL σ x)
  | _=>.fail
 | [x,y],[T,U] =>
  match b with
  | .append=>match (ty P U).ik with
   | some _=>oAppMk P x y dst (ty P T).el m (evL σ x) (evL σ y)
   | none=>oApp P σ x y dst (evL σ x) (ty P T).el (apU (ty P U)) m (srcO σ (evL σ y))
  | .copy=>oCopy P σ x y dst (evL σ x) (ty P T).el (srcO σ (evL σ y))
  | .min=>oMin x y dst (evL σ x) (evL σ y)
  | .max=>oMax x y dst (evL σ x) (evL σ y)
  | _=>.fail
 | _,_=>.fail
def isX:BinOp->Bool
 | .quo|.rem|.shl|.shr|.and|.or|.xor|.andNot=>true
 | _=>false
def oBinX (P:Program) (T:TypeId) (op:BinOp) (x y:Operand) (dst:Option Nat):AV->AV->Out
 | .val (.int k a),.val (.int j b)=>if isX op=true then oIntX op x y dst k j a b else oBin (ty P T) op x y dst (.val (.int k a)) (.val (.int j b))
 | .str a,.str b=>oBin (ty P T) op x y dst (.str a) (.str b)
 | .val (.bool a),.val (.bool b)=>oBin (ty P T) op x y dst (.val (.bool a)) (.val (.bool b))
 | .val .nilIface,.val .nilIface=>oBin (ty P T) op x y dst (.val .nilIface) (.val .nilIface)
 | .agg cs,.agg ds=>oEqAgg P T op x y dst cs ds
 | X,Y=>oNil (nk P T) op x y dst X Y
theorem oBinX_ok {P:Program} {W:World} {σ:AS} {o:Oper} {op:BinOp} {xT yT:TypeId} {x y:Operand} (ho:o.op=.binOp op xT x y yT):OutOK P W o σ (oBinX P xT op x y o.dst (evL σ x) (evL σ y)):=by
 have hb:=oBin_ok (P:=P) (W:=W) (σ:=σ) ho
 have hn:=oNil_ok (P:=P) (W:=W) (σ:=σ) ho
 unfold oBinX
 split
 ·rename_i k a j b hx hy
  split
  ·exact oIntX_ok ho hx hy
  ·rw [hx,hy] at hb;exact hb
 ·rename_i a b hx hy;rw [hx,hy] at hb;exact hb
 ·rename_i a b hx hy;rw [hx,hy] at hb;exact hb
 ·rename_i hx hy;rw [hx,hy] at hb;exact hb
 ·rename_i hx hy;exact oEqAgg_ok ho hx hy
 ·exact hn
theorem zip_fst (σ:AS) (xs:List Operand):(xs.zip (xs.map (evL σ))).map (·.1)=xs:=by
 induction xs with
 | nil=>rfl
 | cons x xs ih=>simp only [List.map_cons,List.zip_cons_cons,ih]
theorem evs_eq (σ:AS) (xs:List Operand):xs.map (evA σ.den.t)=xs.map (evL σ):=List.map_congr_left fun x _=>evL_den σ x
def oBuildE (P:Program) (T:TypeId) (σ:AS) (ps:List (Nat×Operand)) (dst:Option Nat):Option (Nat×TypeId)->Out
 | some (n,e)=>oBuildArr P (ty P T) n e σ ps dst
 | none=>oBuild0 (emptyS P T) ps dst
theorem oBuildE_ok {P:Program} {W:World} {σ:AS} {o:Oper} {T:TypeId} {ps:Array (Nat×Operand)} (ho:o.op=.build T ps):OutOK P W o σ (oBuildE P T σ ps.toList o.dst (ty P T).ar):=by
 cases h:(ty P T).ar with
 | none=>exact oBuild0_ok ho
 | some q=>exact oBuildArr_ok ho h
def out (P:Program) (σ:AS) (m dst:Option Nat):Op->Out
 | .move x=>oV [x] [] dst (evL σ x)
 | .assign x=>oV [x] [] dst (evL σ x)
 | .pick c x y=>oPick σ c x y dst (evL σ c)
 | .extract x i=>oExtract x i dst (evL σ x)
 | .load T x=>if (ty P T).ok=true then oLoad (ty P T) σ x dst (evL σ x) else .fail
 | .store T x y=>match dst with|none=>oStore (ty P T) σ x y (evL σ y) (evL σ x)|some _=>.fail
 | .fieldAddr T x f=>oFieldAddr x dst (evL σ x) ((ty P T).fo[f]?)
 | .indexAddr T x ix=>oIndexAny P σ x ix dst (ty P T) (evL σ x) (evL σ ix)
 | .index T x ix=>oIndexX P T x ix dst (evL σ x) (evL σ ix)
 | .slice T x lo hi none=>oSlice P σ (ty P T) x lo hi dst (evL σ x) (bI σ lo 0) (bI σ hi (defLen (evL σ x)))
 | .slice T x lo (some hi) (some mx)=>oSlice3 P σ x hi mx lo dst (ty P T).el m (evL σ x) (evL σ hi) (evL σ mx) (loXs σ lo)
 | .binOp op T x y _=>oBinX P T op x y dst (evL σ x) (evL σ y)
 | .unOp op _ x=>oUn op x dst (evL σ x)
 | .convert S T x=>oCv P σ S T x dst (ty P T).el
 | .box _ x=>oBox x dst (evL σ x) m
 | .alloc T=>oAlloc (ty P T) dst m
 | .build T ps=>if (ty P T).fo=[] then oBuildE P T σ ps.toList dst (ty P T).ar else oBuild (ty P T) σ ps.toList dst
 | .buildSlice T len ps=>oBuildSlice P σ len ps.toList dst (ty P T).el m
 | .makeSlice T x y=>oMakeSlice P x y dst (ty P T).el m (evL σ x) (evL σ y)
 | .call {callee:=.builtin b,args:=xs,argTypes:=ts}=>oBuiltin P σ b m dst xs.toList ts.toList
 | .call {callee:=.value (.func f),args:=xs,argTypes:=_}=>if extF P f=true then oExt xs.toList dst (xs.toList.map (evL σ)) else if extC P f=true then oCnt xs.toList dst (xs.toList.map (evL σ)) else if extI P f=true then oIxb xs.toList dst (xs.toList.map (evL σ)) else .call f (xs.toList.map (evL σ)) (xs.toList.flatMap rdN) dst
 | .call {callee:=.value (.tmp i),args:=xs,argTypes:=_}=>oDyn (.tmp i) xs.toList σ dst (evL σ (.tmp i))
 | .call {callee:=.invoke x name,args:=xs,argTypes:=_}=>oInv P x xs.toList name σ dst (evL σ x)
 | .makeFunc fn xs ys=>oV (xs.toList++ys.toList) [] dst (.fn fn (xs.toList.map (evL σ)) (ys.toList.map (evL σ)))
 | .makeInterface T x=>if (ty P T).ok=true/\(ty P T).ifc=false then oV [x] [] dst (.ifc T (evL σ x)) else .fail
 | .typeAssert x _ T ok=>oTA (ty P T) T x ok dst (evL σ x)
 | .range T x=>oRangeS P T x dst (evL σ x) m
 | .next x true=>oNextS σ x dst (evL σ x)
 | .field T x f=>oField P T x f dst (evL σ x)
 | .nilCheck x=>oNilX P x dst (evL σ x)
 | .makeMap _ none=>oMakeMap dst m
 | .lookup T x y ok=>oLookup σ x y dst ok (evL σ y) (mapTy P T) (evL σ x)
 | .mapUpdate T x y z=>oMapUpd σ x y z (evL σ y) (evL σ z) dst (mapTy P T) (evL σ x)
 | .insert T x y z=>oMapUpd σ x y z (evL σ y) (evL σ z) dst (mapTy P T) (evL σ x)
 | _=>.fail
theorem arr1 {α:Type} {l:Array α} {x:α} (h:l.toList=[x]):l=#[x]:=by rw [<-Array.toArray_toList (xs:=l),h]
theorem arr2 {α:Type} {l:Array α} {x y:α} (h:l.toList=[x,y]):l=#[x,y]:=by rw [<-Array.toArray_toList (xs:=l),h]
theorem out_ok {P:Program} {W:World} {σ:AS} {o:Oper} {m:Option Nat} (hm:∀ k,m=some k->hg σ.h k=none):OutOK P W o σ (out P σ m o.dst o.op):=by
 unfold out
 split
 ·exact oMove_ok (.inl ‹_›)
 ·exact oMove_ok (.inr ‹_›)
 ·exact oPick_ok ‹_›
 ·exact oExtract_ok ‹_›
 ·split
  ·exact oLoad_ok ‹_› ‹_›
  ·trivial
 ·split
  ·rename_i hd;exact oStore_ok ‹_› hd
  ·trivial
 ·exact oFieldAddr_ok ‹_›
 ·exact oIndexAny_ok ‹_›
 ·exact oIndexX_ok ‹_›
 ·exact oSlice_ok ‹_›
 ·exact oSlice3_ok ‹_› hm
 ·exact oBinX_ok ‹_›
 ·exact oUn_ok ‹_›
 ·exact oCv_ok ‹_›
 ·exact oBox_ok ‹_› hm
 ·exact oAlloc_ok ‹_› hm
 ·split
  ·exact oBuildE_ok ‹_›
  ·exact oBuild_ok ‹_›
 ·exact oBuildSlice_ok ‹_› hm
 ·exact oMakeSlice_ok ‹_› hm
 ·rename_i b xs ts ho
  unfold oBuiltin
  split
  ·rename_i x T h1 h2
   rw [arr1 h1,arr1 h2] at ho
   split
   ·split
    ·exact oLenM_ok ho ‹_›
    ·exact oLen_ok ho
   ·exact oClear_ok ho
   ·exact oCap_ok ho
   ·trivial
  ·rename_i x y T U h1 h2
   rw [arr2 h1,arr2 h2] at ho
   split
   ·split
    ·exact oAppMk_ok ho ‹_› hm
    ·exact oApp_ok ho hm
   ·exact oCopy_ok ho
   ·exact oMin_ok ho
   ·exact oMax_ok ho
   ·trivial
  ·trivial
 ·rename_i f xs ts ho
  split
  ·exact oExt_ok ho ‹_›
  ·split
   ·exact oCnt_ok ho ‹_›
   ·split
    ·exact oIxb_ok ho ‹_›
    ·exact ⟨rfl,_,by rw [keys_rds,zip_fst],fun hf=>enters_static ho hf (evs_eq σ _)⟩
 ·exact oDyn_ok ‹_›
 ·exact oInv_ok ‹_›
 ·exact oMakeFunc_ok ‹_›
 ·split
  ·rename_i h;exact oMakeIfc_ok ‹_› h.1 h.2
  ·trivial
 ·exact oTA_ok ‹_›
 ·exact oRangeS_ok ‹_› hm
 ·exact oNextS_ok ‹_›
 ·exact oField_ok ‹_›
 ·exact oNilX_ok ‹_›
 ·exact oMakeMap_ok ‹_› hm
 ·exact oLookup_ok ‹_›
 ·exact oMapUpd_ok (.inl ‹_›)
 ·exact oMapUpd_ok (.inr ‹_›)
 ·trivial
end Go.Ac

