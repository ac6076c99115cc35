/- What is proved: more operations; calls; regions; code. No condition beyond those that each theorem names. -/
import Derived.Test.YteacgfebjekllaaGreatDoorMa1
set_option linter.all false
namespace Go.Ac
open Go
section
variable {P:Program} {w:World} {t u ty e:TypeId} {du:TypeDesc} {i:TypeInfo}
theorem run_app_room {x:Value} {m sLen sCap:Nat} {base:Option Addr} {news:List Value} {w':World} (ht:P.underlying t=some (.slice e)) (hu:P.underlying u=some du) (hdu:(∃ e',du=.slice e')\/du=.string) (hi:P.info? e=some i)
 (hl:(Builtin.lenOf x).run P w=.ok m w) (hf:(Builtin.firstCells i.size m x).run P w=.ok news.toArray w) (hroom:sLen+m<=sCap)
 (hst:∀ a,base=some a->(storeCells (a.add (sLen * i.size)) news).run P w=.ok () w') (hno:base=none->w'=w) :
 (Builtin.append_ #[t,u] ty #[.slice base sLen sCap,x]).run P w=.ok (.slice base (sLen+m) sCap) w':=by
 cases base with
 | none =>
  have:=hno rfl
  subst this
  rcases hdu with ⟨e',rfl⟩|rfl<;>simp [Builtin.append_,run_underlying ht,run_underlying hu,run_sizeOf' hi,hl,hroom,hf]
 | some a =>
  have hst:=hst a rfl
  rcases hdu with ⟨e',rfl⟩|rfl<;>simp [Builtin.append_,run_underlying ht,run_underlying hu,run_sizeOf' hi,hl,hroom,hf,hst]
theorem run_app_grow {x:Value} {m sLen sCap:Nat} {base:Option Addr} {olds news:List Value} {z:Value} (ht:P.underlying t=some (.slice e)) (hu:P.underlying u=some du) (hdu:(∃ e',du=.slice e')\/du=.string) (hi:P.info? e=some i) (hz:i.zero=some z)
 (hl:(Builtin.lenOf x).run P w=.ok m w) (ho:(Builtin.firstCells i.size sLen (.slice base sLen sCap)).run P w=.ok olds.toArray w) (hf:(Builtin.firstCells i.size m x).run P w.drew=.ok news.toArray w.drew)
 (ho':(Builtin.firstCells i.size sLen (.slice base sLen sCap)).run P w.drew=.ok olds.toArray w.drew)
 (hg:sCap<sLen+m) (h63:sLen+m<=9223372036854775807) (hby:0<i.bytes) (hfit:Builtin.nextslicecap (sLen+m) sCap * i.bytes<=281474976710656) :
 (Builtin.append_ #[t,u] ty #[.slice base sLen sCap,x]).run P w=.ok (.slice (some ⟨w.heap.size,0,none⟩) (sLen+m) (grownCap w (sLen+m) sCap e))
  (w.drew.alloc (.cells (olds.toArray++news.toArray++Builtin.zeroCells z.cells (grownCap w (sLen+m) sCap e - (sLen+m))) e)):=by
 have h1:¬ sLen+m<=sCap:=by omega
 have h2:¬ (9223372036854775807<((sLen:Int)+(m:Int))):=by omega
 have h3:¬ (281474976710656<Builtin.nextslicecap (sLen+m) sCap * i.bytes):=by omega
 have h4:¬ i.bytes=0:=by omega
 have hroom:∀ (n:Nat) (w:World),(askRoom n).run P w=.ok () w:=by intro n w;unfold askRoom;split<;>simp
 rcases hdu with ⟨e',rfl⟩|rfl <;>
  simp [Builtin.append_,run_underlying ht,run_underlying hu,sizeOf,typeInfo,hi,hl,h1,h2,h3,h4,ho',hf,zeroValue,hz,Question.forced,hroom,newRow,grownCap,Question.cut]
 all_goals
  congr 2
  apply Array.ext'
  simp [List.append_assoc]
end
def hput2 (h:Nat->Option GE) (k:Nat) (g:Option GE) (d:Nat) (g':Option GE):Nat->Option GE:=hput (hput h k g) d g'
theorem St.frz_ne {s:St} (h:s=.own\/s=.shr):s ≠ .frz:=by rcases h with rfl|rfl<;>simp
theorem RepAt.grow {E:Env} {σ:SS} {a:Act} {w w':World} {β:Nat->Plc} {I:Nat->Prop} (r:RepAt E σ a w β I) {k d n len m:Nat} {e:TypeId} {els xs:List AV} {st:St} {news:List Value} {dst:Option Nat} {v:Value}
 (hk:σ.h k=some (.arr e n els st)) (hd0:σ.h d=none) (hst:st=.own\/st=.shr/\len=els.length) (hlen:len<=els.length) (hm:m=xs.length)
 (hnews:RL β (dom σ.h) I w.heap true (flats xs) news) (hone:cellsOne news) (hfl:∀ x ∈ xs,x.flat.length=n) (hN:∀ q,dst=some q->q<E.N)
 (how:(∃ o:Obj,∃ z:Nat,∃ arr:Array Value,Adds w w' o/\o=.cells arr e/\arr.size=z/\z ≠ 0/\(len+m) * n<=z/\RL β (dom σ.h) I w.heap true (flats (els.take len++xs)) (arr.toList.take ((len+m) * n))/\cellsOne (arr.toList.take ((len+m) * n)) ∧
  ∃ cap,v=.slice (some ⟨w.heap.size,0,none⟩) (len+m) cap/\len+m<=cap/\cap<=maxLen/\cap * n=z) ∨
  (w'=w/\els.take len=[]/\xs=[]/\len=0/\∃ base,v=.slice base 0 0) ∨
  ((β k).z ≠ 0/\(len+m) * n<=(β k).z/\(∃ vs,w.heap[(β k).b]?=some (.cells vs e (0,0))/\w'=w.setRow (β k).b (vs.toList.take (len * n)++news++vs.toList.drop (len * n+news.length)).toArray) ∧
   ∃ cap,v=.slice (some ⟨(β k).b,0,none⟩) (len+m) cap/\len+m<=cap/\cap<=maxLen/\cap * n=(β k).z)) :
 ∃ β',RepAt E ⟨tset σ.t dst (.gs d 0 (len+m)),hput2 σ.h k (some (.arr e n (els.take len) .sld)) d (some (.arr e n (els.take len++xs) .shr))⟩ (a.put dst v) w' β' I:=by
 have hdk:d ≠ k:=fun h=>by rw [h,hk] at hd0;cases hd0
 obtain ⟨g1,g2,g3,g4⟩:=r.inv.ge k _ hk
 have hall:∀ x ∈ els.take len++xs,x.flat.length=n:=fun x hx=>by
  rcases List.mem_append.1 hx with h|h
  ·exact g3 x (List.mem_of_mem_take h)
  ·exact hfl x h
 have htl:(els.take len).length=len:=by simp;omega
 have hnl:news.length=m * n:=by rw [<-hnews.length,flats_length xs hfl,hm]
 have hH:∀ i,hput2 σ.h k (some (.arr e n (els.take len) .sld)) d (some (.arr e n (els.take len++xs) .shr)) i =
  if i=d then some (.arr e n (els.take len++xs) .shr) else if i=k then some (.arr e n (els.take len) .sld) else σ.h i:=fun i=>rfl
 have hst':st ≠ .frz:=St.frz_ne (hst.imp id (·.1))
 have hnIk:(β k).z ≠ 0->¬ I (β k).b:=fun hz=>by
  rcases g4 with ⟨h,_⟩|⟨_,vs,_,_,_,_,_,_,h⟩
  ·exact absurd h hz
  ·exact h hst'
 have main:∀ (p:Plc),p.n=n →
  (Keep β (bset β d p) (dom σ.h) (dom (hput2 σ.h k (some (.arr e n (els.take len) .sld)) d (some (.arr e n (els.take len++xs) .shr)))) I I w.heap w'.heap →
   GEok (bset β d p) (dom (hput2 σ.h k (some (.arr e n (els.take len) .sld)) d (some (.arr e n (els.take len++xs) .shr)))) I w'.heap d (.arr e n (els.take len++xs) .shr)) →
  (∀ b,I b->w'.heap[b]?=w.heap[b]?)->w.heap.size<=w'.heap.size →
  (∀ i g,σ.h i=some g->Backed (β i) g->(β i).b ≠ (β k).b\/(β k).z=0->w'.heap[(β i).b]?=w.heap[(β i).b]?) →
  ((β k).z ≠ 0->∃ vs vs',w.heap[(β k).b]?=some (.cells vs e (0,0))/\w'.heap[(β k).b]?=some (.cells vs' e (0,0))/\vs'.size=vs.size/\vs'.toList.take (len * n)=vs.toList.take (len * n)) →
  (∀ b,b<E.w0.heap.size->¬ E.B0 b->w'.heap[b]?=w.heap[b]?)->w'.os=w.os->w'.tape=w.tape->w'.output=w.output →
  (p.z ≠ 0->(p.b=(β k).b/\(β k).z ≠ 0)\/p.b=w.heap.size) →
  R (bset β d p) (dom (hput2 σ.h k (some (.arr e n (els.take len) .sld)) d (some (.arr e n (els.take len++xs) .shr)))) I w'.heap true (.gs d 0 (len+m)) v →
  RepAt E ⟨tset σ.t dst (.gs d 0 (len+m)),hput2 σ.h k (some (.arr e n (els.take len) .sld)) d (some (.arr e n (els.take len++xs) .shr))⟩ (a.put dst v) w' (bset β d p) I:=by
  intro p hpn hgd himm hsz hoth hkk hold hos htape hout hpb hv
  have hdom:∀ i,dom σ.h i->i ≠ d:=fun i hi h=>by subst h;simp only [dom,hd0] at hi;cases hi
  have K:Keep β (bset β d p) (dom σ.h) (dom (hput2 σ.h k (some (.arr e n (els.take len) .sld)) d (some (.arr e n (els.take len++xs) .shr)))) I I w.heap w'.heap:=by
   refine ⟨fun i hi=>⟨?_,bset_ne _ _ (hdom i hi)⟩,fun b hb=>⟨hb,himm b hb⟩⟩
   simp only [dom,hH,if_neg (hdom i hi)]
   split
   ·rfl
   ·exact hi
  have hlt:∀ i g,σ.h i=some g->Backed (β i) g->(β i).b<w.heap.size:=fun i g hi hb=>(r.inv.ge i g hi).lt hb
  have hkb:(β k).z ≠ 0->(β k).b<w.heap.size:=fun hz=>hlt k _ hk hz
  have hshare:∀ i g,i ≠ k->σ.h i=some g->Backed (β i) g->(β k).z ≠ 0->(β i).b=(β k).b->st=.shr/\∃ e' els',g=.arr e' n els' .sld/\els'.length<=len:=by
   intro i g hne hi hb hz hbe
   have hc:=r.inv.sep i k g _ hne hi hk hb hz hbe
   cases g with
   | box el s=>simp [Compat] at hc
   | arr e' n' els' s =>
    cases s<;>rcases hst with rfl|⟨rfl,hl⟩<;>simp [Compat] at hc
    obtain ⟨rfl,hc⟩:=hc
    exact ⟨rfl,e',els',rfl,by omega⟩
   | map es s=>cases s<;>simp [Compat] at hc
   | iter s p=>simp [Compat] at hc
   | dead=>exact hb.elim
  refine r.step hN K hv ⟨?_,?_,?_⟩ ?_
  ·intro i g hi
   rw [hH] at hi
   by_cases ed:i=d
   ·subst ed;rw [if_pos rfl] at hi;cases hi;exact hgd K
   ·rw [if_neg ed] at hi
    by_cases ek:i=k
    ·subst ek
     rw [if_pos rfl] at hi;cases hi
     refine ⟨by rw [bset_ne _ _ ed];exact g1,g2,fun x hx=>g3 x (List.mem_of_mem_take hx),?_⟩
     rw [bset_ne _ _ ed]
     rcases g4 with ⟨h1,h2⟩|⟨h1,vs,h5,h6,h7,h8,h9,h10,h11⟩
     ·exact .inl ⟨h1,by rw [h2];simp⟩
     ·right
      obtain ⟨us,us',q1,q2,q3,q4⟩:=hkk h1
      rw [h5] at q1;cases q1
      have hle:len * n<=els.length * n:=Nat.mul_le_mul_right _ hlen
      refine ⟨h1,us',q2,by omega,by rw [htl];omega,?_,?_,(fun h=>by cases h),fun _=>h11 hst'⟩
      ·rw [htl,q4]
       have:=(h8.up.take (len * n)).keep K
       rw [flats_take _ _ g3,List.take_take,Nat.min_eq_left hle] at this
       exact this
      ·rw [htl,q4]
       intro u hu
       exact h9 u (by
        have:vs.toList.take (len * n)=(vs.toList.take (els.length * n)).take (len * n):=by rw [List.take_take,Nat.min_eq_left hle]
        rw [this] at hu
        exact List.mem_of_mem_take hu)
    ·rw [if_neg ek] at hi
     have h0:=r.inv.ge i g hi
     by_cases hb:Backed (β i) g
     ·by_cases hbe:(β i).b ≠ (β k).b\/(β k).z=0
      ·exact h0.keep K (bset_ne _ _ ed) (fun hb=>hoth i g hi hb hbe) (fun _=>Iff.rfl)
      ·have hbe1:(β i).b=(β k).b:=Classical.byContradiction fun h=>hbe (.inl h)
       have hz:(β k).z ≠ 0:=fun h=>hbe (.inr h)
       obtain ⟨_,e',els',rfl,hle⟩:=hshare i g ek hi hb hz hbe1
       obtain ⟨us,us',q1,q2,q3,q4⟩:=hkk hz
       obtain ⟨i1,i2,i3,i4⟩:=h0
       rcases i4 with ⟨h1,_⟩|⟨h1,vs,h5,h6,h7,h8,h9,h10,h11⟩
       ·exact absurd h1 hb
       ·rw [hbe1] at h5 h11
        rw [h5] at q1;cases q1
        have hle':els'.length * n<=len * n:=Nat.mul_le_mul_right _ hle
        have htk:us'.toList.take (els'.length * n)=us.toList.take (els'.length * n):=by
         have:=congrArg (List.take (els'.length * n)) q4
         rw [List.take_take,List.take_take,Nat.min_eq_left hle'] at this
         exact this
        refine ⟨by rw [bset_ne _ _ ed];exact i1,i2,i3,.inr ⟨by rw [bset_ne _ _ ed];exact h1,us',by rw [bset_ne _ _ ed,hbe1];exact q2,by rw [bset_ne _ _ ed];omega,by rw [bset_ne _ _ ed];exact h7,?_,?_,(fun h=>by cases h),fun h=>by rw [bset_ne _ _ ed,hbe1];exact h11 h⟩⟩
        ·rw [htk];exact h8.keep K
        ·rw [htk];exact h9
     ·exact h0.keep K (bset_ne _ _ ed) (fun h=>absurd h hb) (fun h=>absurd h hb)
  ·intro b hb;have:=r.inv.imm b hb;omega
  ·-- apart
   have sepd:∀ i g,i ≠ d->hput2 σ.h k (some (.arr e n (els.take len) .sld)) d (some (.arr e n (els.take len++xs) .shr)) i=some g->Backed (β i) g->p.z ≠ 0->(β i).b=p.b →
    ∃ e' els',g=.arr e' n els' .sld/\els'.length<=len:=by
    intro i g hne hi hb hpz hbe
    rw [hH,if_neg hne] at hi
    rcases hpb hpz with ⟨hpb,hz⟩|hpb
    ·by_cases ek:i=k
     ·subst ek
      rw [if_pos rfl] at hi;cases hi
      exact ⟨e,els.take len,rfl,by rw [htl];exact Nat.le_refl _⟩
     ·rw [if_neg ek] at hi
      exact (hshare i g ek hi hb hz (by rw [hbe,hpb])).2
    ·exfalso
     by_cases ek:i=k
     ·subst ek
      rw [if_pos rfl] at hi;cases hi
      have:=hkb hb
      omega
     ·rw [if_neg ek] at hi
      have:=hlt i g hi hb
      omega
   intro i i' ga gb hne h1 h2 b1 b2 hb
   by_cases ed:i=d
   ·subst ed
    have ed':i' ≠ i:=fun h=>hne h.symm
    rw [bset_same] at b1 hb
    rw [bset_ne _ _ ed'] at b2 hb
    rw [hH,if_pos rfl] at h1;cases h1
    obtain ⟨e',els',rfl,hle⟩:=sepd i' gb ed' h2 b2 b1 hb.symm
    exact ⟨rfl,by simp;omega⟩
   ·by_cases ed':i'=d
    ·subst ed'
     rw [bset_same] at b2 hb
     rw [bset_ne _ _ ed] at b1 hb
     rw [hH,if_pos rfl] at h2;cases h2
     obtain ⟨e',els',rfl,hle⟩:=sepd i ga ed h1 b1 b2 hb
     exact ⟨rfl,by simp;omega⟩
    ·rw [bset_ne _ _ ed] at b1 hb
     rw [bset_ne _ _ ed'] at b2 hb
     rw [hH,if_neg ed] at h1
     rw [hH,if_neg ed'] at h2
     by_cases ek:i=k
     ·subst ek
      have ek':i' ≠ i:=fun h=>hne h.symm
      rw [if_pos rfl] at h1;cases h1
      rw [if_neg ek'] at h2
      obtain ⟨_,e',els',rfl,hle⟩:=hshare i' gb ek' h2 b2 b1 hb.symm
      trivial
     ·rw [if_neg ek] at h1
      by_cases ek':i'=k
      ·subst ek'
       rw [if_pos rfl] at h2;cases h2
       obtain ⟨_,e',els',rfl,hle⟩:=hshare i ga ek h1 b1 b2 hb
       trivial
      ·rw [if_neg ek'] at h2
       exact r.inv.sep i i' ga gb hne h1 h2 b1 b2 hb
  ·obtain ⟨f1,f2,f3,f4,f5,f6,f7,f8,f9⟩:=r.fr
   refine ⟨by omega,hos.trans f2,htape.trans f3,hout.trans f4,fun b hb hB=>(hold b hb hB).trans (f5 b hb hB),f6,f7,?_,pin_keep K f9⟩
   intro i g hi b1 hs
   rw [hH] at hi
   by_cases ed:i=d
   ·subst ed
    rw [if_pos rfl] at hi;cases hi
    rw [bset_same] at b1 ⊢
    rcases hpb b1 with ⟨hpb,hz⟩|hpb
    ·rw [hpb];exact f8 k _ hk hz hst'
    ·rw [hpb];exact .inl f1
   ·rw [if_neg ed] at hi
    rw [bset_ne _ _ ed] at b1 ⊢
    by_cases ek:i=k
    ·subst ek
     rw [if_pos rfl] at hi;cases hi
     exact f8 i _ hk b1 hst'
    ·rw [if_neg ek] at hi
     exact f8 i g hi b1 hs
 have hDd:dom (hput2 σ.h k (some (.arr e n (els.take len) .sld)) d (some (.arr e n (els.take len++xs) .shr))) d:=by show (hput2 _ _ _ _ _ d).isSome=true;rw [hH,if_pos rfl];rfl
 have hlx:(els.take len++xs).length=len+m:=by rw [List.length_append,htl,hm]
 have hkv:(β k).z ≠ 0->∃ vs,w.heap[(β k).b]?=some (.cells vs e (0,0))/\vs.size=(β k).z/\els.length * n<=(β k).z/\RL β (dom σ.h) I w.heap true (flats els) (vs.toList.take (els.length * n))/\cellsOne (vs.toList.take (els.length * n)):=fun hz=>by
  rcases g4 with ⟨h,_⟩|⟨_,vs,h1,h2,h3,h4,h5,_⟩
  ·exact absurd h hz
  ·exact ⟨vs,h1,h2,h3,h4.up,h5⟩
 rcases how with ⟨o,z,arr,ha,rfl,hz,hz0,hfit,hRL,hcO,cap,rfl,hc1,hc2,hc3⟩|⟨rfl,h1,h2,h3,base,rfl⟩|⟨hz0,hfit,⟨vs,hvs,rfl⟩,cap,rfl,hc1,hc2,hc3⟩
 ·refine ⟨bset β d ⟨w.heap.size,n,z⟩,main ⟨w.heap.size,n,z⟩ rfl (fun K=>?_) (fun b hb=>ha.old (r.inv.imm b hb)) (by rw [ha.size];omega) (fun i g hi hb _=>ha.old ((r.inv.ge i g hi).lt hb)) (fun hz=>?_)
   (fun b hb hB=>ha.old (by have:=r.fr.size;omega)) ha.os ha.tape ha.output (fun _=>.inr rfl) ?_⟩
  ·refine ⟨by rw [bset_same],g2,hall,.inr ⟨by rw [bset_same];exact hz0,arr,by rw [bset_same];exact ha.new,by rw [bset_same];exact hz,by rw [bset_same,hlx];exact hfit,by rw [hlx];exact hRL.keep K,by rw [hlx];exact hcO,(fun h=>by cases h),fun _=>by rw [bset_same];exact fun h=>Nat.lt_irrefl w.heap.size (r.inv.imm w.heap.size h)⟩⟩
  ·obtain ⟨vs,q1,_⟩:=hkv hz
   exact ⟨vs,vs,q1,by rw [ha.old ((r.inv.ge k _ hk).lt hz)];exact q1,rfl,rfl⟩
  ·exact .gs hDd hc1 hc2 (.inr (by rw [bset_same];exact ⟨by simp,by simpa using hc3⟩))
 ·subst h3
  have hm0:m=0:=by rw [hm,h2];rfl
  subst hm0
  refine ⟨bset β d ⟨0,n,0⟩,main ⟨0,n,0⟩ rfl (fun K=>?_) (fun b hb=>rfl) (Nat.le_refl _) (fun i g hi hb _=>rfl) (fun hz=>?_) (fun b hb hB=>rfl) rfl rfl rfl (fun h=>absurd rfl h) ?_⟩
  ·exact ⟨by rw [bset_same],g2,hall,.inl ⟨by rw [bset_same],by rw [h1,h2];rfl⟩⟩
  ·obtain ⟨vs,q1,_⟩:=hkv hz
   exact ⟨vs,vs,q1,q1,rfl,rfl⟩
  ·exact .gs hDd (by omega) (by unfold maxLen;omega) (.inl ⟨rfl,by rw [bset_same];simp⟩)
 ·obtain ⟨vs',q1,q2,q3,q4,q5⟩:=hkv hz0
  rw [hvs] at q1;cases q1
  have hle:len * n<=els.length * n:=Nat.mul_le_mul_right _ hlen
  have hT:=Turns.setRow w (β k).b (vs.toList.take (len * n)++news++vs.toList.drop (len * n+news.length)).toArray
  have hrow:=setRow_heap w (β k).b vs (vs.toList.take (len * n)++news++vs.toList.drop (len * n+news.length)).toArray e (0,0) hvs
  have hmul:(len+m) * n=len * n+news.length:=by rw [Nat.add_mul,hnl]
  have hne:∀ b,I b->b ≠ (β k).b:=fun b hb h=>hnIk hz0 (h ▸ hb)
  have htk:(vs.toList.take (len * n)).length=len * n:=by simp;omega
  refine ⟨bset β d ⟨(β k).b,n,(β k).z⟩,main ⟨(β k).b,n,(β k).z⟩ rfl (fun K=>?_) (fun b hb=>hT.heap b (hne b hb)) (by rw [hT.size];exact Nat.le_refl _) (fun i g hi hb h=>hT.heap _ (by rcases h with h|h;exact h;exact absurd h hz0)) (fun hz=>?_)
   (fun b hb hB=>hT.heap b (fun h=>by
    subst h
    rcases r.fr.mt k _ hk hz0 hst' with h|h
    ·omega
    ·exact hB h)) hT.os hT.tape hT.output (fun _=>.inl ⟨rfl,hz0⟩) ?_⟩
  ·refine ⟨by rw [bset_same],g2,hall,.inr ⟨by rw [bset_same];exact hz0,_,by rw [bset_same];exact hrow,by rw [bset_same];simp;omega,by rw [bset_same,hlx];exact hfit,?_,?_,(fun h=>by cases h),fun _=>by rw [bset_same];exact hnIk hz0⟩⟩
   ·rw [hlx,hmul]
    have e1:(vs.toList.take (len * n)++news++vs.toList.drop (len * n+news.length)).toArray.toList.take (len * n+news.length)=vs.toList.take (len * n)++news:=by
     simp only [List.take_append,htk,List.length_append]
     rw [List.take_of_length_le (l:=vs.toList.take (len * n)) (by rw [htk];omega)]
     simp
    rw [e1,flats_append]
    have:=(q4.take (len * n)).keep K
    rw [flats_take _ _ g3,List.take_take,Nat.min_eq_left hle] at this
    exact this.append (hnews.keep K)
   ·rw [hlx,hmul]
    intro u hu
    have e1:(vs.toList.take (len * n)++news++vs.toList.drop (len * n+news.length)).toArray.toList.take (len * n+news.length)=vs.toList.take (len * n)++news:=by
     simp only [List.take_append,htk,List.length_append]
     rw [List.take_of_length_le (l:=vs.toList.take (len * n)) (by rw [htk];omega)]
     simp
    rw [e1] at hu
    rcases List.mem_append.1 hu with h|h
    ·refine q5 u ?_
     have:vs.toList.take (len * n)=(vs.toList.take (els.length * n)).take (len * n):=by rw [List.take_take,Nat.min_eq_left hle]
     rw [this] at h
     exact List.mem_of_mem_take h
    ·exact hone u h
  ·refine ⟨vs,_,hvs,hrow,by simp;omega,?_⟩
   simp only [List.append_assoc,List.take_append,htk]
   rw [List.take_take,Nat.min_self]
   simp
  ·exact .gs hDd hc1 hc2 (.inr (by rw [bset_same];exact ⟨by simp,by simpa using hc3⟩))
end Go.Ac

namespace Go.Ac
open Go
theorem srcV_congr {h h':Nat->Option GE} {Y:AV} (hr:∀ p ∈ srcH h Y,h' p.1=p.2):srcV h' Y=srcV h Y/\∀ n,srcN h' n Y=srcN h n Y:=by
 cases Y with
 | gs k i len =>
  have:=hr (k,h k) (by simp [srcH])
  simp only at this
  exact ⟨by simp only [srcV,this],fun n=>by simp only [srcN,this]⟩
 | val v =>
  refine ⟨?_,fun _=>rfl⟩
  unfold srcV
  split<;>first|rfl|(rename_i heq;cases heq)
 | _=>exact ⟨rfl,fun _=>rfl⟩
theorem RepAt.phantom {E:Env} {σ:SS} {a:Act} {w:World} {β:Nat->Plc} {I:Nat->Prop} (r:RepAt E σ a w β I) {d n:Nat} {e:TypeId} {dst:Option Nat} {X:AV} {v:Value} (hd0:σ.h d=none) (hn:0<n)
 (hN:∀ q,dst=some q->q<E.N)
 (hv:R (bset β d ⟨0,n,0⟩) (dom (hput σ.h d (some (.arr e n [] .own)))) I w.heap true X v) :
 RepAt E ⟨tset σ.t dst X,hput σ.h d (some (.arr e n [] .own))⟩ (a.put dst v) w (bset β d ⟨0,n,0⟩) I:=by
 have hne:∀ i,(σ.h i).isSome=true->i ≠ d:=fun i hi e=>by rw [e,hd0] at hi;cases hi
 have K:Keep β (bset β d ⟨0,n,0⟩) (dom σ.h) (dom (hput σ.h d (some (.arr e n [] .own)))) I I w.heap w.heap:=by
  refine ⟨fun i hi=>?_,fun b hb=>⟨hb,rfl⟩⟩
  have:=hne i hi
  exact ⟨by simp only [dom,hput_ne _ _ this];exact hi,bset_ne _ _ this⟩
 refine r.step hN K hv ⟨?_,r.inv.imm,?_⟩ ?_
 ·intro i g hi
  by_cases ed:i=d
  ·subst ed;rw [hput_same] at hi;cases hi
   exact ⟨by rw [bset_same],hn,by simp,.inl ⟨by rw [bset_same],rfl⟩⟩
  ·rw [hput_ne _ _ ed] at hi
   exact (r.inv.ge i g hi).keep K (bset_ne _ _ ed) (fun _=>rfl) (fun _=>Iff.rfl)
 ·intro i i' g1 g2 hne' h1 h2 b1 b2 hb
  by_cases ed:i=d
  ·subst ed;rw [hput_same] at h1;cases h1;rw [bset_same] at b1;exact absurd rfl b1
  ·by_cases ed':i'=d
   ·subst ed';rw [hput_same] at h2;cases h2;rw [bset_same] at b2;exact absurd rfl b2
   ·rw [hput_ne _ _ ed] at h1
    rw [hput_ne _ _ ed'] at h2
    rw [bset_ne _ _ ed] at b1 hb
    rw [bset_ne _ _ ed'] at b2 hb
    exact r.inv.sep i i' g1 g2 hne' h1 h2 b1 b2 hb
 ·obtain ⟨f1,f2,f3,f4,f5,f6,f7,f8,f9⟩:=r.fr
  refine ⟨f1,f2,f3,f4,f5,f6,f7,fun i g hi b1 hs=>?_,pin_keep K f9⟩
  by_cases ed:i=d
  ·subst ed;rw [hput_same] at hi;cases hi;rw [bset_same] at b1;exact absurd rfl b1
  ·rw [hput_ne _ _ ed] at hi
   rw [bset_ne _ _ ed] at b1 ⊢
   exact f8 i g hi b1 hs
theorem grownCap_bound {w:World} {need old:Nat} {e:TypeId} (h:need<=maxLen):need<=grownCap w need old e/\grownCap w need old e<=maxLen :=
 ⟨grownCap_ge w need old e,grownCap_le_maxLen w need old e h⟩
theorem exec_append {P:Program} {o:Oper} {a:Act} {w w':World} {x y:Operand} {T U:TypeId} {v:Value} (ho:o.op=.call {callee:=.builtin .append,args:=#[x,y],argTypes:=#[T,U]})
 (h:(Builtin.append_ #[T,U] o.type #[a.eval x,a.eval y]).run P w=.ok v w'):(execOp a.eval o).run P w=.ok (.value v) w':=by
 simp only [execOp,ho,resolve,invoke,builtin,Sem.run_bind,Sem.run_pure,Result.andThen_ok,List.map_toArray,List.map_cons,List.map_nil,h]
theorem ok_append {P:Program} {o:Oper} {t:Nat->AV} {h:Nat->Option GE} {T U e:TypeId} {du:TypeDesc} {i:TypeInfo} {x y:Operand} {Y:AV} {xs els:List AV} {z:Value} {n k d len:Nat} {st:St}
 (ho:o.op=.call {callee:=.builtin .append,args:=#[x,y],argTypes:=#[T,U]}) (hT:P.underlying T=some (.slice e)) (hU:P.underlying U=some du) (hdu:(∃ e',du=.slice e')\/du=.string) (hi:P.info? e=some i) (hn:i.size=n)
 (hz:i.zero=some z) (hzs:z.cells.size=n) (hby:0<i.bytes)
 (hx:evA t x=.gs k 0 len) (hy:evA t y=Y) (hk:h k=some (.arr e n els st)) (hs:srcV h Y=some xs) (hsn:srcN h n Y)
 (hst:st=.own\/st=.shr/\len=els.length) (hlen:len<=els.length) (hfit:(len+xs.length) * i.bytes<=140737488355328) :
 LocalOK P o {rt:=rds [(x,.gs k 0 len),(y,Y)],rh:=(k,some (.arr e n els st))::(d,none)::srcH h Y,dst:=o.dst,v:=.gs d 0 (len+xs.length),
              wh:=[(k,some (.arr e n (els.take len) .sld)),(d,some (.arr e n (els.take len++xs) .shr))]}:=by
 intro E σ a w K Q hN hr ⟨β,I,r⟩ hkk
 have hX:=R_ev r (ev_reads hx (fun p hp=>hr.1 p (by simp [rds,hp])))
 have hY:=R_ev r (ev_reads hy (fun p hp=>hr.1 p (by simp [rds,hp])))
 have hg:=hr.2 (k,some (.arr e n els st)) (by simp)
 have hd0:=hr.2 (d,none) (by simp)
 simp only at hg hd0
 obtain ⟨s1,s2⟩:=srcV_congr (h:=h) (h':=σ.h) (Y:=Y) (fun p hp=>hr.2 p (by simp [hp]))
 obtain ⟨news,hv,hnews,hone,hfl,hnl,hrun,_⟩:=src_run (P:=P) r hY (s1.trans hs) (by rw [s2];exact hsn)
 obtain ⟨g1,g2,g3,g4⟩:=r.inv.ge k _ hg
 have hmax:len+xs.length<=maxLen:=by
  have:(len+xs.length) * 1<=(len+xs.length) * i.bytes:=Nat.mul_le_mul_left _ hby
  unfold maxLen;omega
 have hmax':len+xs.length<=9223372036854775807:=by unfold maxLen at hmax;omega
 have htake:news.take (xs.length * n)=news:=List.take_of_length_le (by omega)
 have hln:(Builtin.lenOf (a.eval y)).run P w=.ok xs.length w:=hv w
 have hf:∀ w2:World,w2.heap=w.heap->(Builtin.firstCells i.size xs.length (a.eval y)).run P w2=.ok news.toArray w2:=fun w2 h2=>by
  have:=hrun w2 h2 xs.length (Nat.le_refl _)
  rwa [htake,<-hn] at this
 have hmul:(len+xs.length) * n=len * n+news.length:=by rw [Nat.add_mul,hnl]
 have hle:len * n<=els.length * n:=Nat.mul_le_mul_right _ hlen
 unfold Oper.wp
 have done:∀ (v:Value) (w':World),(Builtin.append_ #[T,U] o.type #[a.eval x,a.eval y]).run P w=.ok v w' →
  (∃ β',RepAt E ⟨tset σ.t o.dst (.gs d 0 (len+xs.length)),hput2 σ.h k (some (.arr e n (els.take len) .sld)) d (some (.arr e n (els.take len++xs) .shr))⟩ (a.put o.dst v) w' β' I) →
  o.upon P a K Q ((execOp a.eval o).run P w):=by
  intro v w' h1 ⟨β',h2⟩
  rw [exec_append ho h1,Oper.upon_value]
  exact hkk _ _ ⟨β',I,h2⟩
 generalize hv0:a.eval x=v0 at hX done
 cases hX with
 | gs d1 d2 d3 d4 =>
  rename_i cap base
  have holds:∃ olds:List Value,olds.length=len * n/\RL β (dom σ.h) I w.heap true (flats (els.take len)) olds/\cellsOne olds ∧
   (∀ w2:World,w2.heap=w.heap->(Builtin.firstCells i.size len (.slice base len cap)).run P w2=.ok olds.toArray w2):=by
   by_cases hl0:len=0
   ·subst hl0
    refine ⟨[],by simp,by simp [flats];exact .nil _,(by intro v hv;simp at hv),fun w2 _=>?_⟩
    cases base with
    | none=>simp [Builtin.firstCells]
    | some ad=>simp only [Builtin.firstCells,Nat.zero_mul,loadCells_zero]
   ·rcases d4 with d4|⟨d4,d5⟩
    ·omega
    ·have hz0:(β k).z ≠ 0:=by
      rw [<-d5,g1]
      intro hc
      rcases Nat.mul_eq_zero.1 hc with h|h<;>omega
     rcases g4 with ⟨h,_⟩|⟨_,vs,g5,g6,g7,g8,g9,_⟩
     ·exact absurd h hz0
     ·refine ⟨vs.toList.take (len * n),by simp;omega,?_,?_,fun w2 hw2=>?_⟩
      ·have:=g8.up.take (len * n)
       rwa [flats_take _ _ g3,List.take_take,Nat.min_eq_left hle] at this
      ·intro u hu
       refine g9 u ?_
       have:vs.toList.take (len * n)=(vs.toList.take (els.length * n)).take (len * n):=by rw [List.take_take,Nat.min_eq_left hle]
       rw [this] at hu
       exact List.mem_of_mem_take hu
      ·rw [d4,hn]
       refine run_firstCells_some (P:=P) w2 n len _ len cap (vs.toList.take (len * n)) (by simp;omega) (fun j u hu=>?_)
       have hcw:w2.cell? ((⟨(β k).b,0 * (β k).n,none⟩:Addr).add j)=w.cell? ((⟨(β k).b,0 * (β k).n,none⟩:Addr).add j):=by simp [World.cell?,hw2]
       rw [hcw,addr_add,cell_of_cells g5]
       rw [List.getElem?_take] at hu
       split at hu
       ·simpa using hu
       ·cases hu
  obtain ⟨olds,ol,oR,oO,orun⟩:=holds
  by_cases hroom:len+xs.length<=cap
  ·by_cases hc0:cap=0
   ·have hl0:len=0:=by omega
    have hx0:xs=[]:=List.eq_nil_of_length_eq_zero (by omega)
    subst hc0 hl0 hx0
    have hnn:news=[]:=List.eq_nil_of_length_eq_zero (by simpa using hnl)
    subst hnn
    refine done _ w (run_app_room hT hU hdu hi hln (hf w rfl) hroom (fun ad _=>by simp [storeCells]) (fun _=>rfl)) ?_
    exact r.grow hg hd0 hst hlen rfl hnews hone hfl hN (.inr (.inl ⟨rfl,by simp,rfl,rfl,base,rfl⟩))
   ·rcases d4 with d4|⟨d4,d5⟩
    ·exact absurd d4.1 hc0
    ·have hz0:(β k).z ≠ 0:=by
      rw [<-d5,g1]
      intro hc
      rcases Nat.mul_eq_zero.1 hc with h|h<;>omega
     rcases g4 with ⟨h,_⟩|⟨_,vs,g5,g6,g7,g8,g9,_⟩
     ·exact absurd h hz0
     ·rw [Nat.zero_mul] at d4
      rw [Nat.zero_add,g1] at d5
      have hle2:(len+xs.length) * n<=(β k).z:=by rw [<-d5];exact Nat.mul_le_mul_right _ hroom
      have hst2:=run_storeCells_at P (β k).b (len * n) e news 0 vs w g5 (by omega) hone
      simp only [Nat.add_zero] at hst2
      refine done _ _ (run_app_room hT hU hdu hi hln (hf w rfl) hroom (fun ad had=>by
       rw [d4] at had;cases had
       rw [addr_add,Nat.zero_add,hn];exact hst2) (fun h=>by rw [d4] at h;cases h)) ?_
      rw [d4]
      exact r.grow hg hd0 hst hlen rfl hnews hone hfl hN (.inr (.inr ⟨hz0,hle2,⟨vs,g5,rfl⟩,cap,rfl,hroom,d3,d5⟩))
  ·have hgc:=grownCap_bound (w:=w) (old:=cap) (e:=e) hmax
   refine done _ _ (run_app_grow hT hU hdu hi hz hln (orun w rfl) (hf w.drew rfl) (orun w.drew rfl) (by omega) hmax' hby (growslice_fits (by omega) hfit)) ?_
   have hsz:(olds.toArray++news.toArray++Builtin.zeroCells z.cells (grownCap w (len+xs.length) cap e - (len+xs.length))).size=grownCap w (len+xs.length) cap e * n:=by
    simp only [Array.size_append,List.size_toArray,size_zeroCells,hzs,ol]
    rw [<-hmul,<-Nat.add_mul];congr 1;omega
   have htk:(olds.toArray++news.toArray++Builtin.zeroCells z.cells (grownCap w (len+xs.length) cap e - (len+xs.length))).toList.take ((len+xs.length) * n)=olds++news:=by
    rw [hmul,<-ol]
    simp only [Array.toList_append]
    rw [show olds.length+news.length=(olds++news).length by simp]
    exact List.take_left
   refine r.grow hg hd0 hst hlen rfl hnews hone hfl hN (.inl ⟨_,_,_,Adds.drewAlloc w _,rfl,hsz,?_,Nat.mul_le_mul_right _ hgc.1,?_,?_,_,rfl,hgc.1,hgc.2,rfl⟩)
   ·intro hc
    rcases Nat.mul_eq_zero.1 hc with h|h<;>omega
   ·rw [htk,flats_append];exact oR.append hnews
   ·rw [htk]
    intro u hu
    rcases List.mem_append.1 hu with h|h
    ·exact oO u h
    ·exact hone u h
theorem ok_appendNil {P:Program} {o:Oper} {t:Nat->AV} {h:Nat->Option GE} {T U e:TypeId} {du:TypeDesc} {i:TypeInfo} {x y:Operand} {Y:AV} {xs:List AV} {z:Value} {n d:Nat}
 (ho:o.op=.call {callee:=.builtin .append,args:=#[x,y],argTypes:=#[T,U]}) (hT:P.underlying T=some (.slice e)) (hU:P.underlying U=some du) (hdu:(∃ e',du=.slice e')\/du=.string) (hi:P.info? e=some i) (hn:i.size=n) (hn0:0<n)
 (hz:i.zero=some z) (hzs:z.cells.size=n) (hby:0<i.bytes)
 (hx:evA t x=.val (.slice none 0 0)) (hy:evA t y=Y) (hs:srcV h Y=some xs) (hsn:srcN h n Y) (hfit:xs.length * i.bytes<=140737488355328) :
 LocalOK P o {rt:=rds [(x,.val (.slice none 0 0)),(y,Y)],rh:=(d,none)::srcH h Y,dst:=o.dst,v:=.gs d 0 xs.length,wh:=[(d,some (.arr e n xs .own))]}:=by
 intro E σ a w K Q hN hr ⟨β,I,r⟩ hkk
 have hX:=(R_ev r (ev_reads hx (fun p hp=>hr.1 p (by simp [rds,hp])))).val_inv
 have hY:=R_ev r (ev_reads hy (fun p hp=>hr.1 p (by simp [rds,hp])))
 have hd0:=hr.2 (d,none) (by simp)
 simp only at hd0
 obtain ⟨s1,s2⟩:=srcV_congr (h:=h) (h':=σ.h) (Y:=Y) (fun p hp=>hr.2 p (by simp [hp]))
 obtain ⟨news,hv,hnews,hone,hfl,hnl,hrun,_⟩:=src_run (P:=P) r hY (s1.trans hs) (by rw [s2];exact hsn)
 have hmax:xs.length<=maxLen:=by
  have:xs.length * 1<=xs.length * i.bytes:=Nat.mul_le_mul_left _ hby
  unfold maxLen;omega
 have htake:news.take (xs.length * n)=news:=List.take_of_length_le (by omega)
 have hln:(Builtin.lenOf (a.eval y)).run P w=.ok xs.length w:=hv w
 have hf:∀ w2:World,w2.heap=w.heap->(Builtin.firstCells i.size xs.length (a.eval y)).run P w2=.ok news.toArray w2:=fun w2 h2=>by
  have:=hrun w2 h2 xs.length (Nat.le_refl _)
  rwa [htake,<-hn] at this
 unfold Oper.wp
 by_cases hx0:xs=[]
 ·subst hx0
  have hnn:news=[]:=List.eq_nil_of_length_eq_zero (by simpa using hnl)
  subst hnn
  have:=run_app_room (P:=P) (w:=w) (ty:=o.type) (sLen:=0) (sCap:=0) (base:=none) hT hU hdu hi hln (hf w rfl) (by simp) (fun ad h=>by cases h) (fun _=>rfl)
  rw [<-hX] at this
  rw [exec_append ho this,Oper.upon_value]
  refine hkk _ _ ⟨_,I,r.phantom (dst:=o.dst) (X:=.gs d 0 0) (e:=e) hd0 hn0 hN ?_⟩
  exact .gs (by simp only [dom,hput_same,Option.isSome_some]) (by simp) (by unfold maxLen;simp) (.inl ⟨rfl,by rw [bset_same];simp⟩)
 ·have hpos:0<xs.length:=List.length_pos_iff.2 hx0
  have hgc:=grownCap_bound (w:=w) (old:=0) (e:=e) hmax
  have h63:xs.length<=9223372036854775807:=by unfold maxLen at hmax;omega
  have hno:∀ w2:World,(Builtin.firstCells i.size 0 (.slice none 0 0)).run P w2=.ok ([]:List Value).toArray w2:=fun w2=>by simp [Builtin.firstCells]
  have hgo:=run_app_grow (P:=P) (w:=w) (ty:=o.type) (sLen:=0) (sCap:=0) (base:=none) (olds:=[]) hT hU hdu hi hz hln (hno w) (hf w.drew rfl) (hno w.drew) (by omega) (by omega) hby (growslice_fits (by omega) (by rw [Nat.zero_add];exact hfit))
  rw [<-hX] at hgo
  rw [exec_append ho hgo,Oper.upon_value]
  have hsz:(([]:List Value).toArray++news.toArray++Builtin.zeroCells z.cells (grownCap w (0+xs.length) 0 e - (0+xs.length))).size=grownCap w xs.length 0 e * n:=by
   simp only [Array.size_append,List.size_toArray,size_zeroCells,hzs,hnl,Nat.zero_add,List.length_nil]
   rw [<-Nat.add_mul];congr 1;omega
  have htk:(([]:List Value).toArray++news.toArray++Builtin.zeroCells z.cells (grownCap w (0+xs.length) 0 e - (0+xs.length))).toList.take (xs.length * n)=news:=by
   rw [<-hnl]
   simp only [Array.toList_append,List.nil_append]
   exact List.take_left
  refine hkk _ _ ⟨bset β d ⟨w.heap.size,n,grownCap w xs.length 0 e * n⟩,I,?_⟩
  refine r.create (n:=n) (z:=grownCap w xs.length 0 e * n) hd0 (Adds.drewAlloc w _) hN (fun K' hI=>?_) (fun K'=>?_)
  ·refine ⟨by rw [bset_same],hn0,hfl,.inr ⟨?_,_,by rw [bset_same];exact (Adds.drewAlloc w _).new,by rw [bset_same];exact hsz,by rw [bset_same];exact Nat.mul_le_mul_right _ hgc.1,?_,?_,(fun h=>by cases h),fun _=>by rw [bset_same];exact hI⟩⟩
   ·rw [bset_same]
    intro hc
    rcases Nat.mul_eq_zero.1 hc with h|h<;>omega
   ·rw [htk];exact hnews.keep K'
   ·rw [htk];exact hone
  ·have:=R.gs (β:=bset β d ⟨w.heap.size,n,grownCap w xs.length 0 e * n⟩) (D:=dom (hput σ.h d (some (.arr e n xs .own)))) (I:=I) (H:=(w.drew.alloc (.cells (([]:List Value).toArray++news.toArray++Builtin.zeroCells z.cells (grownCap w (0+xs.length) 0 e - (0+xs.length))) e)).heap)
    (k:=d) (i:=0) (len:=xs.length) (cap:=grownCap w xs.length 0 e) (base:=some ⟨w.heap.size,0,none⟩) (by simp only [dom,hput_same,Option.isSome_some]) hgc.1 hgc.2 (.inr (by rw [bset_same];exact ⟨by simp,by simp⟩))
   simpa using this
end Go.Ac

namespace Go.Ac
open Go
theorem exec_copy {P:Program} {o:Oper} {a:Act} {w w':World} {x y:Operand} {T U:TypeId} {v:Value} (ho:o.op=.call {callee:=.builtin .copy,args:=#[x,y],argTypes:=#[T,U]})
 (h:(Builtin.copy_ #[T,U] o.type #[a.eval x,a.eval y]).run P w=.ok v w'):(execOp a.eval o).run P w=.ok (.value v) w':=by
 simp only [execOp,ho,resolve,invoke,builtin,Sem.run_bind,Sem.run_pure,Result.andThen_ok,List.map_toArray,List.map_cons,List.map_nil,h]
theorem hput_self (h:Nat->Option GE) (k:Nat) (g:Option GE) (e:h k=g):hput h k g=h:=by
 funext i;unfold hput;split
 ·rename_i hi;rw [hi,e]
 ·rfl
theorem ok_copy {P:Program} {o:Oper} {t:Nat->AV} {h:Nat->Option GE} {T U e:TypeId} {i:TypeInfo} {x y:Operand} {Y:AV} {xs els:List AV} {n k i0 len q:Nat}
 (ho:o.op=.call {callee:=.builtin .copy,args:=#[x,y],argTypes:=#[T,U]}) (hT:P.underlying T=some (.slice e)) (hi:P.info? e=some i) (hn:i.size=n)
 (hx:evA t x=.gs k i0 len) (hy:evA t y=Y) (hk:h k=some (.arr e n els .own)) (hs:srcV h Y=some xs) (hsn:srcN h n Y)
 (hlen:i0+len<=els.length) (hq:q=Nat.min xs.length len) :
 LocalOK P o {rt:=rds [(x,.gs k i0 len),(y,Y)],rh:=(k,some (.arr e n els .own))::srcH h Y,dst:=o.dst,v:=.val (.int .i64 q),
              wh:=[(k,some (.arr e n (els.take i0++xs.take q++els.drop (i0+q)) .own))]}:=by
 intro E σ a w K Q hN hr ⟨β,I,r⟩ hkk
 have hX:=R_ev r (ev_reads hx (fun p hp=>hr.1 p (by simp [rds,hp])))
 have hY:=R_ev r (ev_reads hy (fun p hp=>hr.1 p (by simp [rds,hp])))
 have hg:=hr.2 (k,some (.arr e n els .own)) (by simp)
 simp only at hg
 obtain ⟨s1,s2⟩:=srcV_congr (h:=h) (h':=σ.h) (Y:=Y) (fun p hp=>hr.2 p (by simp [hp]))
 obtain ⟨news,hv,hnews,hone,hfl,hnl,hrun,_⟩:=src_run (P:=P) r hY (s1.trans hs) (by rw [s2];exact hsn)
 obtain ⟨g1,g2,g3,g4⟩:=r.inv.ge k _ hg
 have hql:q<=xs.length:=by rw [hq];exact Nat.min_le_left _ _
 have hql2:q<=len:=by rw [hq];exact Nat.min_le_right _ _
 have hln:(Builtin.lenOf (a.eval y)).run P w=.ok xs.length w:=hv w
 have hf:=hrun w rfl q hql
 have htl:(news.take (q * n)).length=q * n:=by
  have:q * n<=xs.length * n:=Nat.mul_le_mul_right _ hql
  simp;omega
 unfold Oper.wp
 generalize hv0:a.eval x=v0 at hX
 cases hX with
 | gs d1 d2 d3 d4 =>
  rename_i cap base
  have hcopy:∀ w',(match base with|some ad=>(storeCells ad (news.take (q * n))).run P w=.ok () w'|none=>w'=w)->(execOp a.eval o).run P w=.ok (.value (.int .i64 q)) w':=by
   intro w' hst
   refine exec_copy ho ?_
   rw [hv0]
   rw [hq] at hf hst ⊢
   cases base with
   | none =>
    simp only at hst
    subst hst
    simp only [Builtin.copy_,List.getElem?_toArray,List.getElem?_cons_zero,List.getElem?_cons_succ,Sem.run_bind,run_underlying hT,Result.andThen_ok,hln,run_sizeOf' hi,hn,hf,Sem.run_pure,goInt]
   | some ad =>
    simp only at hst
    simp only [Builtin.copy_,List.getElem?_toArray,List.getElem?_cons_zero,List.getElem?_cons_succ,Sem.run_bind,run_underlying hT,Result.andThen_ok,hln,run_sizeOf' hi,hn,hf,hst,Sem.run_pure,goInt]
  by_cases hq0:q=0
  ·have e1:els.take i0++xs.take q++els.drop (i0+q)=els:=by rw [hq0];simp
   rw [hcopy w (by
    rw [hq0,Nat.zero_mul,List.take_zero]
    cases base<;>simp [storeCells]),Oper.upon_value]
   refine hkk _ _ ⟨β,I,?_⟩
   have:=r.put (dst:=o.dst) (x:=.val (.int .i64 q)) (v:=.int .i64 q) hN (.val _ _)
   simp only [SS.upd,hset_one,e1,hput_self _ _ _ hg]
   exact this
  ·rcases d4 with d4|⟨d4,d5⟩
   ·omega
   ·rcases g4 with ⟨_,h⟩|⟨hz0,vs,g5,g6,g7,g8,g9,_,g10⟩
    ·exfalso;rw [h] at hlen;simp at hlen;omega
    ·rw [g1] at d4 d5
     have hle:els.length * n<=(β k).z:=g7
     have hle2:i0 * n+q * n<=els.length * n:=by rw [<-Nat.add_mul];exact Nat.mul_le_mul_right _ (by omega)
     have hst:=run_storeCells_at P (β k).b (i0 * n) e (news.take (q * n)) 0 vs w g5 (by rw [htl];omega) (fun u hu=>hone u (List.mem_of_mem_take hu))
     simp only [Nat.add_zero,htl] at hst
     rw [hcopy _ (by rw [d4];exact hst),Oper.upon_value]
     refine hkk _ _ ⟨β,I,?_⟩
     have hnI:=g10 (by simp)
     have hnew:∀ x ∈ els.take i0++xs.take q++els.drop (i0+q),x.flat.length=n:=fun x hx=>by
      rcases List.mem_append.1 hx with h|h
      ·rcases List.mem_append.1 h with h|h
       ·exact g3 x (List.mem_of_mem_take h)
       ·exact hfl x (List.mem_of_mem_take h)
      ·exact g3 x (List.mem_of_mem_drop h)
     have hlenN:(els.take i0++xs.take q++els.drop (i0+q)).length=els.length:=by simp;omega
     have hcells:(vs.toList.take (i0 * n)++news.take (q * n)++vs.toList.drop (i0 * n+q * n)).take (els.length * n) =
      (vs.toList.take (els.length * n)).take (i0 * n)++news.take (q * n)++(vs.toList.take (els.length * n)).drop (i0 * n+q * n):=by
      have h1:(vs.toList.take (i0 * n)).length=i0 * n:=by simp;omega
      rw [List.take_append,List.take_append,List.length_append,h1,htl]
      rw [List.take_of_length_le (l:=vs.toList.take (i0 * n)) (by omega),List.take_of_length_le (l:=news.take (q * n)) (by omega)]
      rw [List.take_take,Nat.min_eq_left (by omega),List.drop_take]
     refine r.modify (v:=.int .i64 q) hg (Turns.setRow w _ _) hN hnI hz0 hz0 (fun x=>by cases x<;>simp [Compat]) (by simp [GE.st]) (fun K'=>?_) (fun K'=>.val _ _)
     refine ⟨g1,g2,hnew,.inr ⟨hz0,_,setRow_heap w _ _ _ e (0,0) g5,by simp only [List.size_toArray,List.length_append,htl,List.length_take,List.length_drop,Array.length_toList];omega,by rw [hlenN];exact g7,?_,?_,(fun h=>by cases h),fun _=>hnI⟩⟩
     ·rw [hlenN]
      show RL _ _ _ _ _ _ (List.take (els.length * n) (vs.toList.take (i0 * n)++news.take (q * n)++vs.toList.drop (i0 * n+q * n)))
      rw [hcells,flats_append,flats_append]
      refine RL.append (RL.append ?_ ?_) ?_
      ·have:=(g8.take (i0 * n)).keep K'
       rwa [flats_take _ _ g3] at this
      ·have:=(hnews.take (q * n)).keep K'
       rwa [flats_take _ _ hfl] at this
      ·have:=(g8.drop ((i0+q) * n)).keep K'
       rwa [flats_drop _ _ g3,Nat.add_mul] at this
     ·rw [hlenN]
      show cellsOne (List.take (els.length * n) (vs.toList.take (i0 * n)++news.take (q * n)++vs.toList.drop (i0 * n+q * n)))
      rw [hcells]
      intro u hu
      rcases List.mem_append.1 hu with h|h
      ·rcases List.mem_append.1 h with h|h
       ·exact g9 u (List.mem_of_mem_take h)
       ·exact hone u (List.mem_of_mem_take h)
      ·exact g9 u (List.mem_of_mem_drop h)
end Go.Ac

namespace Go.Ac
open Go
def frzGE:GE->GE
 | .box el _=>.box el .frz
 | .arr e n els _=>.arr e n els .frz
 | .map es _=>.map es .frz
 | .iter s p=>.iter s p
 | .dead=>.dead
def lk (fs:List (Nat×GE)) (k:Nat):Option GE :=
 match fs with
 | []=>none
 | (i,g)::l=>if i=k then some g else lk l k
def frzH (h:Nat->Option GE) (fs:List (Nat×GE)):Nat->Option GE:=fun i=>match lk fs i with|some g=>some (frzGE g)|none=>h i
def Frzable:GE->Prop
 | .box el .own=>el.clo=true
 | .arr _ _ els .own=>cloL els=true
 | .arr _ _ _ .frz=>True
 | _=>False
theorem lk_mem {fs:List (Nat×GE)} {k:Nat} {g:GE} (h:lk fs k=some g):(k,g) ∈ fs:=by
 induction fs with
 | nil=>cases h
 | cons p l ih =>
  obtain ⟨i,g'⟩:=p
  simp only [lk] at h
  split at h
  ·rename_i e;cases h;subst e;simp
  ·simp [ih h]
theorem cloL_app:∀ l k:List AV,cloL (l++k)=(cloL l && cloL k)
 | [],_=>rfl
 | a::l,k=>by simp [cloL,cloL_app l k,Bool.and_assoc]
theorem cloL_flats':∀ {l:List AV},cloL l=true->cloL (flats l)=true
 | [],_=>rfl
 | a::l,h=>by
  simp only [cloL,Bool.and_eq_true] at h
  simp only [flats,cloL_app,Bool.and_eq_true]
  exact ⟨cloL_flat h.1,cloL_flats' h.2⟩
theorem RepAt.freeze {E:Env} {σ:SS} {a:Act} {w:World} {β:Nat->Plc} {I:Nat->Prop} (r:RepAt E σ a w β I) {fs:List (Nat×GE)} (hfs:∀ p ∈ fs,σ.h p.1=some p.2/\Frzable p.2) :
 RepAt E ⟨σ.t,frzH σ.h fs⟩ a w β (fun b=>I b\/∃ p ∈ fs,Backed (β p.1) p.2/\(β p.1).b=b):=by
 have hlk:∀ i g,lk fs i=some g->σ.h i=some g/\Frzable g:=fun i g h=>hfs _ (lk_mem h)
 have hdom:∀ i,(frzH σ.h fs i).isSome=(σ.h i).isSome:=fun i=>by
  unfold frzH
  cases h:lk fs i with
  | none=>rfl
  | some g=>simp [(hlk i g h).1]
 have K:Keep β β (dom σ.h) (dom (frzH σ.h fs)) I (fun b=>I b\/∃ p ∈ fs,Backed (β p.1) p.2/\(β p.1).b=b) w.heap w.heap :=
  ⟨fun i hi=>⟨by simp only [dom,hdom];exact hi,rfl⟩,fun b hb=>⟨.inl hb,rfl⟩⟩
 have apart:∀ p ∈ fs,Backed (β p.1) p.2->∀ i g,σ.h i=some g->Backed (β i) g->g.st ≠ .frz->i ≠ p.1->(β p.1).b ≠ (β i).b\/I (β p.1).b:=by
  intro p hp hz i g hi hb hst hne
  obtain ⟨h1,h2⟩:=hfs p hp
  cases hg:p.2 with
  | box el s =>
   rw [hg] at h1 h2
   cases s with
   | own =>
    left;intro hbe
    have:=r.inv.sep p.1 i _ g (fun h=>hne h.symm) h1 hi trivial hb hbe
    cases g<;>simp [Compat] at this
   | frz=>exact h2.elim
   | shr=>exact h2.elim
   | sld=>exact h2.elim
  | map es s=>rw [hg] at h2;exact h2.elim
  | iter s p=>rw [hg] at h2;exact h2.elim
  | dead=>rw [hg] at h2;exact h2.elim
  | arr e n els s =>
   rw [hg] at h1 h2 hz
   cases s with
   | own =>
    left;intro hbe
    have:=r.inv.sep p.1 i _ g (fun h=>hne h.symm) h1 hi hz hb hbe
    cases g<;>simp [Compat] at this
   | frz =>
    right
    obtain ⟨_,_,_,h4⟩:=r.inv.ge p.1 _ h1
    rcases h4 with ⟨h4,_⟩|⟨_,vs,_,_,_,_,_,h5,_⟩
    ·exact absurd h4 hz
    ·exact h5 rfl
   | shr=>exact h2.elim
   | sld=>exact h2.elim
 refine ⟨fun i=>(r.tmps i).keep K,⟨?_,?_,?_⟩,?_,r.size,r.defers⟩
 ·intro i g hi
  change frzH σ.h fs i=some g at hi
  unfold frzH at hi
  cases h:lk fs i with
  | some g0 =>
   rw [h] at hi;cases hi
   obtain ⟨h1,h2⟩:=hlk i g0 h
   cases g0 with
   | box el s =>
    obtain ⟨vs,T,q1,q2,q3,q4,q5,q6⟩:=r.inv.ge i _ h1
    have q3':RL β (dom σ.h) I w.heap false el.flat vs.toList:=by
     cases s with
     | own=>exact q3.clo (cloL_flat h2)
     | frz=>exact h2.elim
     | shr=>exact h2.elim
     | sld=>exact h2.elim
    exact ⟨vs,T,q1,q2,q3'.keep K,q4,(fun _=>.inr ⟨_,lk_mem h,trivial,rfl⟩),fun h=>absurd rfl h⟩
   | map es s=>exact h2.elim
   | iter s p=>exact h2.elim
   | dead=>exact h2.elim
   | arr e n els s =>
    obtain ⟨q1,q2,q3,q4⟩:=r.inv.ge i _ h1
    refine ⟨q1,q2,q3,?_⟩
    rcases q4 with q4|⟨hz,vs,q5,q6,q7,q8,q9,_⟩
    ·exact .inl q4
    ·have q8':RL β (dom σ.h) I w.heap false (flats els) (vs.toList.take (els.length * n)):=by
      cases s with
      | own=>exact q8.clo (cloL_flats' h2)
      | frz=>exact q8
      | shr=>exact h2.elim
      | sld=>exact h2.elim
     exact .inr ⟨hz,vs,q5,q6,q7,q8'.keep K,q9,(fun _=>.inr ⟨_,lk_mem h,hz,rfl⟩),fun h=>absurd rfl h⟩
  | none =>
   rw [h] at hi
   have h0:=r.inv.ge i g hi
   refine h0.keep K rfl (fun _=>rfl) (fun hb=>⟨fun hx=>?_,.inl⟩)
   rcases hx with hx|⟨p,hp,hz,hbe⟩
   ·exact hx
   ·by_cases hst:g.st=.frz
    ·cases g with
     | box el s=>obtain ⟨vs,T,_,_,_,_,h5,_⟩:=h0;exact h5 hst
     | map es s=>obtain ⟨_,_,_,_,_,h5,_⟩:=h0;exact h5 hst
     | iter s p=>exact absurd hst (by simp [GE.st])
     | dead=>exact hb.elim
     | arr e n els s =>
      obtain ⟨_,_,_,h4⟩:=h0
      rcases h4 with ⟨h4,_⟩|⟨_,vs,_,_,_,_,_,h5,_⟩
      ·exact absurd h4 hb
      ·exact h5 hst
    ·by_cases hne:i=p.1
     ·subst hne
      obtain ⟨h1,h2⟩:=hfs p hp
      have:lk fs p.1 ≠ none:=by
       intro hn
       have:∀ l:List (Nat×GE),p ∈ l->lk l p.1 ≠ none:=by
        intro l
        induction l with
        | nil=>intro h;cases h
        | cons q l ih =>
         intro hq
         obtain ⟨i',g'⟩:=q
         simp only [lk]
         split
         ·simp
         ·rename_i hne
          rcases List.mem_cons.1 hq with rfl|hq
          ·exact absurd rfl hne
          ·exact ih hq
       exact this fs hp hn
      exact absurd h this
     ·rcases apart p hp hz i g hi hb hst hne with h|h
      ·exact absurd hbe h
      ·rw [hbe] at h;exact h
 ·intro b hb
  rcases hb with hb|⟨p,hp,hz,rfl⟩
  ·exact r.inv.imm b hb
  ·obtain ⟨h1,h2⟩:=hfs p hp
   exact (r.inv.ge p.1 _ h1).lt hz
 ·intro i i' g g' hne hi hi' hb hb' hbe
  have back:∀ i g,frzH σ.h fs i=some g->∃ g0,σ.h i=some g0/\(Backed (β i) g->Backed (β i) g0)/\(g=g0\/(g=frzGE g0/\Frzable g0)):=by
   intro i g hi
   unfold frzH at hi
   cases h:lk fs i with
   | some g0 =>
    rw [h] at hi;cases hi
    obtain ⟨h1,h2⟩:=hlk i g0 h
    exact ⟨g0,h1,by cases g0<;>exact id,.inr ⟨rfl,h2⟩⟩
   | none=>rw [h] at hi;exact ⟨g,hi,id,.inl rfl⟩
  obtain ⟨g0,a1,a2,a3⟩:=back i g hi
  obtain ⟨g0',b1,b2,b3⟩:=back i' g' hi'
  have hc:=r.inv.sep i i' g0 g0' hne a1 b1 (a2 hb) (b2 hb') hbe
  have no:∀ x y,Frzable x->¬ Compat x y/\¬ Compat y x:=by
   intro x y hx
   cases x with
   | box el s=>cases s<;>first|exact hx.elim|(constructor<;>(cases y with|box _ _=>exact id|map _ _=>exact id|iter _ _=>exact id|dead=>exact id|arr _ _ _ s=>cases s<;>exact id))
   | map es s=>exact hx.elim
   | iter s p=>exact hx.elim
   | dead=>exact hx.elim
   | arr e n els s=>cases s<;>first|exact hx.elim|(constructor<;>(cases y with|box _ _=>exact id|map _ _=>exact id|iter _ _=>exact id|dead=>exact id|arr _ _ _ s=>cases s<;>exact id))
  rcases a3 with rfl|⟨_,a3⟩
  ·rcases b3 with rfl|⟨_,b3⟩
   ·exact hc
   ·exact absurd hc (no _ _ b3).2
  ·exact absurd hc (no _ _ a3).1
 ·obtain ⟨f1,f2,f3,f4,f5,f6,f7,f8,f9⟩:=r.fr
  refine ⟨f1,f2,f3,f4,f5,fun b hb=>.inl (f6 b hb),fun b hb hlt=>?_,?_,pin_keep K f9⟩
  ·rcases hb with hb|⟨p,hp,hz,rfl⟩
   ·exact f7 b hb hlt
   ·obtain ⟨h1,h2⟩:=hfs p hp
    cases hg:p.2 with
    | box el s =>
     rw [hg] at h1 h2
     cases s with
     | own =>
      rcases f8 p.1 _ h1 trivial (by simp [GE.st]) with h|h
      ·omega
      ·exact .inr h
     | frz=>exact h2.elim
     | shr=>exact h2.elim
     | sld=>exact h2.elim
    | map es s=>rw [hg] at h2;exact h2.elim
    | iter s p=>rw [hg] at h2;exact h2.elim
    | dead=>rw [hg] at h2;exact h2.elim
    | arr e n els s =>
     rw [hg] at h1 h2 hz
     cases s with
     | own =>
      rcases f8 p.1 _ h1 hz (by simp [GE.st]) with h|h
      ·omega
      ·exact .inr h
     | frz =>
      obtain ⟨_,_,_,h4⟩:=r.inv.ge p.1 _ h1
      rcases h4 with ⟨h4,_⟩|⟨_,vs,_,_,_,_,_,h5,_⟩
      ·exact absurd h4 hz
      ·exact f7 _ (h5 rfl) hlt
     | shr=>exact h2.elim
     | sld=>exact h2.elim
  ·intro i g hi hb hst
   change frzH σ.h fs i=some g at hi
   unfold frzH at hi
   cases h:lk fs i with
   | some g0=>rw [h] at hi;cases hi;cases g0<;>first|exact absurd rfl hst|exact hb.elim|exact ((hlk i _ h).2).elim
   | none=>rw [h] at hi;exact f8 i g hi hb hst
mutual
def clA (fs:List (Nat×GE)):AV->AV
 | .gs k i len =>
  match lk fs k with
  | some (.arr _ n els _)=>if i+len<=els.length then .sl n ((els.drop i).take len) [] else .gs k i len
  | _=>.gs k i len
 | .agg cs=>.agg (clL fs cs)
 | .tup cs=>.tup (clL fs cs)
 | .ifc t x=>.ifc t (clA fs x)
 | .mp k=>.mp k
 | .top=>.top
 | .val v=>.val v
 | .str l=>.str l
 | .sl n els rest=>.sl n els rest
 | .ip el c=>.ip el c
 | .gp k c =>
  match lk fs k with
  | some (.box el _)=>.ip el c
  | _=>.gp k c
 | .ge k i c=>.ge k i c
 | .fn f xs ys=>.fn f (clL fs xs) (clL fs ys)
def clL (fs:List (Nat×GE)):List AV->List AV
 | []=>[]
 | a::l=>clA fs a::clL fs l
end
section
variable {E:Env} {σ:SS} {a:Act} {w:World} {β:Nat->Plc} {I:Nat->Prop} {fs:List (Nat×GE)}
mutual
theorem R_clA (r:RepAt E σ a w β I) (hfs:∀ p ∈ fs,σ.h p.1=some (frzGE p.2)/\Frzable p.2):∀ {m x v},R β (dom σ.h) I w.heap m x v->R β (dom σ.h) I w.heap m (clA fs x) v
 | _,_,_,.top m v=>.top m v
 | _,_,_,.val m v=>.val m v
 | _,_,_,.str m l=>.str m l
 | _,_,_,.agg h=>.agg (RL_clL r hfs h)
 | _,_,_,.tup h=>.tup (RL_clL r hfs h)
 | _,_,_,.sl vs h1 h2 h3 h4 h4' h5 h6 h7 h8 h9=>.sl vs h1 h2 h3 h4 h4' h5 h6 h7 h8 h9
 | _,_,_,.sl0=>.sl0
 | _,_,_,.ip vs h1 h3 h4 h5 h6=>.ip vs h1 h3 h4 h5 h6
 | _,.gp k c,_,.gp hd=>by
  simp only [clA]
  cases h:lk fs k with
  | none=>exact .gp hd
  | some g =>
   obtain ⟨h1,h2⟩:=hfs _ (lk_mem h)
   cases g with
   | box el s =>
    simp only [frzGE] at h1
    obtain ⟨vs,T,g1,g2,g3,g4,g5,_⟩:=r.inv.ge k _ h1
    have:=R.ip (β:=β) (D:=dom σ.h) (I:=I) (H:=w.heap) (m:=true) (c:=c) (o:=0) vs.toList (g5 rfl) g2 g3 g4 (fun j v hv=>by simpa using hv)
    simpa using this
   | map es s=>exact .gp hd
   | iter s p=>exact .gp hd
   | dead=>exact .gp hd
   | arr e n els s=>exact .gp hd
 | _,_,_,.ge h=>.ge h
 | _,_,_,.fn h1 h2=>.fn (RL_clL r hfs h1) (RL_clL r hfs h2)
 | _,_,_,.ifc h=>.ifc (R_clA r hfs h)
 | _,_,_,.mp h=>.mp h
 | _,.gs k i len,_,.gs (cap:=cap) (base:=base) d1 d2 d3 d4=>by
  simp only [clA]
  cases h:lk fs k with
  | none=>exact .gs d1 d2 d3 d4
  | some g =>
   obtain ⟨h1,h2⟩:=hfs _ (lk_mem h)
   cases g with
   | box el s=>exact .gs d1 d2 d3 d4
   | map es s=>exact h2.elim
   | iter s p=>exact h2.elim
   | dead=>exact h2.elim
   | arr e n els s =>
    simp only
    split
    case isFalse=>exact .gs d1 d2 d3 d4
    case isTrue hle =>
     simp only [frzGE] at h1
     obtain ⟨g1,g2,g3,g4⟩:=r.inv.ge k _ h1
     have hlen:((els.drop i).take len).length=len:=by simp;omega
     have nilc:len=0->cap=0->R β (dom σ.h) I w.heap true (.sl n ((els.drop i).take len) []) (.slice base len cap):=by
      rintro rfl rfl;simp only [List.take_zero];exact .sl0
     rcases d4 with ⟨d4,_⟩|⟨d4,d5⟩
     ·exact nilc (by omega) d4
     ·rcases g4 with ⟨hz,he⟩|⟨hz,vs,g5,g6,g7,g8,g9,g10,_⟩
      ·refine nilc (by subst he;simp at hle;omega) ?_
       rw [hz] at d5
       rcases Nat.mul_eq_zero.1 d5 with h|h
       ·omega
       ·rw [g1] at h;omega
      ·rw [g1] at d4 d5
       rw [d4]
       conv=>rhs;rw [<-hlen]
       refine .sl ((vs.toList.take (els.length * n)).drop (i * n) |>.take (len * n)) (g10 rfl) rfl g5 (fun x hx=>g3 x (List.mem_of_mem_drop (List.mem_of_mem_take hx))) (by simp) (by simp;omega) d3 ?_ ?_ ?_
       ·simp only [flats,List.append_nil]
        have:=(g8.drop (i * n)).take (len * n)
        rwa [flats_drop _ _ g3,flats_take _ _ (fun e he=>g3 e (List.mem_of_mem_drop he))] at this
       ·exact fun u hu=>g9 u (List.mem_of_mem_drop (List.mem_of_mem_take hu))
       ·intro j u hu
        rw [List.getElem?_take] at hu
        split at hu
        ·rw [List.getElem?_drop,List.getElem?_take] at hu
         split at hu
         ·simpa using hu
         ·cases hu
        ·cases hu
theorem RL_clL (r:RepAt E σ a w β I) (hfs:∀ p ∈ fs,σ.h p.1=some (frzGE p.2)/\Frzable p.2):∀ {m xs vs},RL β (dom σ.h) I w.heap m xs vs->RL β (dom σ.h) I w.heap m (clL fs xs) vs
 | _,_,_,.nil m=>.nil m
 | _,_,_,.cons h1 h2=>.cons (R_clA r hfs h1) (RL_clL r hfs h2)
end
end
end Go.Ac

namespace Go.Ac
open Go
mutual
inductive Le:AV->AV->Prop where
 | refl (a):Le a a
 | top (a):Le a .top
 | nil (n):Le (.val (.slice none 0 0)) (.sl n [] [])
 | rest (n els rest):Le (.sl n els rest) (.sl n els [])
 | emp (n m rest):Le (.sl n [] rest) (.sl m [] [])
 | agg {cs ds}:LeL cs ds->Le (.agg cs) (.agg ds)
 | tup {cs ds}:LeL cs ds->Le (.tup cs) (.tup ds)
 | els {n as bs}:LeL as bs->(∀ e ∈ bs,e.flat.length=n)->Le (.sl n as []) (.sl n bs [])
inductive LeL:List AV->List AV->Prop where
 | nil:LeL [] []
 | cons {a b as bs}:Le a b->LeL as bs->LeL (a::as) (b::bs)
end
theorem LeL.refl:∀ l,LeL l l
 | []=>.nil
 | a::l=>.cons (.refl a) (LeL.refl l)
theorem LeL.len:∀ {as bs},LeL as bs->as.length=bs.length
 | _,_,.nil=>rfl
 | _,_,.cons _ h=>by simp [LeL.len h]
section
variable {β:Nat->Plc} {D I:Nat->Prop} {H:Array Obj}
mutual
theorem Le.R:∀ {m:Bool} {a b v},Le a b->R β D I H m a v->R β D I H m b v
 | _,_,_,_,.refl a,h=>h
 | _,_,_,v,.top a,_=>.top _ v
 | _,_,_,_,.nil n,h=>by cases h;exact .sl0
 | _,_,_,_,.rest n els rest,h=>by
  cases h with
  | sl0=>exact .sl0
  | sl vs g1 g2 g3 g4 g4' g5 g6 g7 g8 g9 =>
   refine .sl (vs.take (flats els).length) g1 g2 g3 g4 (by simp) (by simp;omega) g6 ?_ (fun u hu=>g8 u (List.mem_of_mem_take hu)) (fun j u hu=>?_)
   ·have:=g7.take (flats els).length
    simpa [flats] using this
   ·rw [List.getElem?_take] at hu
    split at hu
    ·exact g9 j u hu
    ·cases hu
 | _,_,_,_,.emp n q rest,h=>by
  cases h with
  | sl0=>exact .sl0
  | sl vs g1 g2 g3 g4 g4' g5 g6 g7 g8 g9 =>
   exact .sl (els:=[]) (rest:=[]) [] g1 g2 g3 (by simp) (by simp) (by simp) g6 (by simp [flats];exact .nil _) (by intro v hv;simp at hv) (by simp)
 | _,_,_,_,.agg l,h=>by
  cases h with
  | agg h=>exact .agg (LeL.R l h)
 | _,_,_,_,.tup l,h=>by
  cases h with
  | tup h=>exact .tup (LeL.R l h)
 | _,.sl n as [],.sl _ bs [],_,.els l hb,h=>by
  cases h with
  | sl0=>cases l;exact .sl0
  | sl vs g1 g2 g3 g4 g4' g5 g6 g7 g8 g9 =>
   have hl:=LeL.len l
   rw [hl]
   refine .sl vs g1 g2 g3 hb (by simp) (by rw [hl] at g5;simpa using g5) g6 ?_ g8 g9
   have g7':RL β D I H false (flats as) vs:=by simpa [flats] using g7
   have:=LeL.Rf l (fun e he=>g4 e he) hb g7'
   simpa [flats] using this
theorem Le.Rf:∀ {m:Bool} {a b vs},Le a b->a.flat.length=b.flat.length->RL β D I H m a.flat vs->RL β D I H m b.flat vs
 | _,_,_,_,.refl a,_,h=>h
 | _,a,_,vs,.top _,hl,h=>by
  have hv:=h.length
  match vs,hv with
  | [v],_=>exact .cons (.top _ v) (.nil _)
  | [],hv=>rw [hl] at hv;simp [AV.flat] at hv
  | _::_::_,hv=>rw [hl] at hv;simp [AV.flat] at hv
 | _,_,_,_,.nil n,_,h=>by
  cases h with
  | cons k1 k2=>exact .cons (Le.R (.nil n) k1) k2
 | _,_,_,_,.rest n els rest,_,h=>by
  cases h with
  | cons k1 k2=>exact .cons (Le.R (.rest n els rest) k1) k2
 | _,_,_,_,.emp n q rest,_,h=>by
  cases h with
  | cons k1 k2=>exact .cons (Le.R (.emp n q rest) k1) k2
 | _,_,_,_,.agg l,_,h=>LeL.R l h
 | _,_,_,_,.tup l,_,h=>by
  cases h with
  | cons k1 k2=>exact .cons (by cases k1 with|tup k1=>exact .tup (LeL.R l k1)) k2
 | _,_,_,_,.els (n:=n) (as:=as) (bs:=bs) l hb,_,h=>by
  cases h with
  | cons k1 k2 =>
   refine .cons ?_ k2
   cases k1 with
   | sl0=>cases l;exact .sl0
   | sl vs g1 g2 g3 g4 g4' g5 g6 g7 g8 g9 =>
    have hl:=LeL.len l
    rw [hl]
    refine .sl vs g1 g2 g3 hb (by simp) (by rw [hl] at g5;simpa using g5) g6 ?_ g8 g9
    have g7':RL β D I H false (flats as) vs:=by simpa [flats] using g7
    have:=LeL.Rf l (fun e he=>g4 e he) hb g7'
    simpa [flats] using this
theorem LeL.Rf:∀ {m:Bool} {as bs vs} {n:Nat},LeL as bs->(∀ e ∈ as,e.flat.length=n)->(∀ e ∈ bs,e.flat.length=n)->RL β D I H m (flats as) vs->RL β D I H m (flats bs) vs
 | _,_,_,_,_,.nil,_,_,h=>h
 | _,a::as,b::bs,vs,n,.cons h1 h2,ha,hb,h=>by
  simp only [flats] at h ⊢
  have hla:=ha a (by simp)
  have hlb:=hb b (by simp)
  have hv:vs=vs.take n++vs.drop n:=(List.take_append_drop n vs).symm
  have k1:=h.take n
  have k2:=h.drop n
  rw [<-hla,List.take_left] at k1
  rw [<-hla,List.drop_left] at k2
  rw [hla] at k1 k2
  rw [hv]
  exact (Le.Rf h1 (by rw [hla,hlb]) k1).append (LeL.Rf h2 (fun e he=>ha e (by simp [he])) (fun e he=>hb e (by simp [he])) k2)
theorem LeL.R:∀ {m:Bool} {as bs vs},LeL as bs->RL β D I H m as vs->RL β D I H m bs vs
 | _,_,_,_,.nil,h=>h
 | _,_,_,_,.cons h1 h2,h=>by
  cases h with
  | cons k1 k2=>exact .cons (Le.R h1 k1) (LeL.R h2 k2)
end
end
structure Ext (I I':Nat->Prop) (w w':World):Prop where
 heap:∀ b,b<w.heap.size->w'.heap[b]?=w.heap[b]?
 size:w.heap.size<=w'.heap.size
 os:w'.os=w.os
 tape:w'.tape=w.tape
 output:w'.output=w.output
 sub:∀ b,I b->I' b
 new:∀ b,I' b->b<w'.heap.size/\(b<w.heap.size->I b)
structure Over (W w:World):Prop where
 size:W.heap.size<=w.heap.size
 heap:∀ b,b<W.heap.size->w.heap[b]?=W.heap[b]?
 os:w.os=W.os
 tape:w.tape=W.tape
 output:w.output=W.output
def Pure (P:Program) (W:World) (f:FuncId) (args:List AV) (r:AV):Prop :=
 ∀ (β:Nat->Plc) (D I:Nat->Prop) (w:World) (vs:List Value),Over W w->(∀ b,I b->b<w.heap.size)->RL β D I w.heap false args vs →
  Calls P f vs.toArray w fun e w'=>∃ I' v,e=.returned v/\R β D I' w'.heap false r v/\Ext I I' w w'
structure Env.good (W:World) (E:Env):Prop where
 over:Over W E.w0
 lent:∀ b,E.B0 b->W.heap.size<=b
def LocalOKW (P:Program) (W:World) (o:Oper) (f:Eff):Prop :=
 ∀ (E:Env) (σ:SS) (a:Act) (w:World) (K:Act->World->Prop) (Q:Exit->Act->World->Prop),E.good W->(∀ d,f.dst=some d->d<E.N)->Reads σ f->Rep E σ a w →
  (∀ a' w',Rep E (σ.upd f) a' w'->K a' w')->o.wp P a w K Q
theorem LocalOK.w {P:Program} {W:World} {o:Oper} {f:Eff} (h:LocalOK P o f):LocalOKW P W o f :=
 fun E σ a w K Q _ h1 h2 h3 h4=>h E σ a w K Q h1 h2 h3 h4
theorem RepAt.over {W:World} {E:Env} {σ:SS} {a:Act} {w:World} {β:Nat->Plc} {I:Nat->Prop} (r:RepAt E σ a w β I) (g:E.good W):Over W w :=
 ⟨Nat.le_trans g.over.size r.fr.size,fun b hb=>(r.fr.old b (Nat.lt_of_lt_of_le hb g.over.size) (fun h=>by have:=g.lent b h;omega)).trans (g.over.heap b hb),r.fr.os.trans g.over.os,r.fr.tape.trans g.over.tape,r.fr.output.trans g.over.output⟩
theorem RepAt.ext {E:Env} {σ:SS} {a:Act} {w w':World} {β:Nat->Plc} {I I':Nat->Prop} (r:RepAt E σ a w β I) (x:Ext I I' w w') {dst:Option Nat} {res:AV} {v:Value}
 (hN:∀ d,dst=some d->d<E.N) (hv:R β (dom σ.h) I' w'.heap true res v):RepAt E ⟨tset σ.t dst res,σ.h⟩ (a.put dst v) w' β I':=by
 have K:Keep β β (dom σ.h) (dom σ.h) I I' w.heap w'.heap:=⟨fun i hi=>⟨hi,rfl⟩,fun b hb=>⟨x.sub b hb,x.heap b (r.inv.imm b hb)⟩⟩
 refine r.step hN K hv ⟨?_,fun b hb=>(x.new b hb).1,r.inv.sep⟩ ?_
 ·intro i g hi
  have h0:=r.inv.ge i g hi
  exact h0.keep K rfl (fun hb=>x.heap _ (h0.lt hb)) (fun hb=>⟨fun h=>(x.new _ h).2 (h0.lt hb),x.sub _⟩)
 ·obtain ⟨f1,f2,f3,f4,f5,f6,f7,f8,f9⟩:=r.fr
  exact ⟨Nat.le_trans f1 x.size,x.os.trans f2,x.tape.trans f3,x.output.trans f4,fun b hb hB=>(x.heap b (by omega)).trans (f5 b hb hB),fun b hb=>x.sub b (f6 b hb),fun b hb hlt=>f7 b ((x.new b hb).2 (by omega)) hlt,f8,f9⟩
def callable (P:Program) (f:FuncId):Bool :=
 match P.funcs[f]? with
 | some fn=>fn.body.isSome && !(fn.name == "runtime.NumGoroutine")
 | none=>false
theorem exec_call {P:Program} {o:Oper} {a:Act} {w:World} {f:FuncId} {xs:Array Operand} {ts:Array TypeId} (ho:o.op=.call {callee:=.value (.func f),args:=xs,argTypes:=ts}) (hf:callable P f=true) :
 (execOp a.eval o).run P w=.ok (.enter f (xs.map a.eval)) w:=by
 unfold callable at hf
 cases hfn:P.funcs[f]? with
 | none=>rw [hfn] at hf;cases hf
 | some fn =>
  rw [hfn] at hf
  simp only [Bool.and_eq_true,Bool.not_eq_true'] at hf
  obtain ⟨h1,h2⟩:=hf
  have h3:fn.body.isNone=false:=by cases h:fn.body<;>simp_all
  have h4:¬ fn.name= "runtime.NumGoroutine":=by simpa using h2
  have h5:¬ fn.body=none:=by intro h;rw [h] at h1;cases h1
  simp [execOp,ho,resolve,Deferred.ofValue,Act.eval,invoke,callFunc,hfn,h4,h5]
theorem RL_evs {β:Nat->Plc} {D I:Nat->Prop} {H:Array Obj} {m:Bool} {a:Act}:∀ (xs:List Operand) (As:List AV),xs.length=As.length->(∀ p ∈ xs.zip As,R β D I H m p.2 (a.eval p.1))->RL β D I H m As (xs.map a.eval)
 | [],[],_,_=>.nil _
 | x::xs,A::As,h,k=>.cons (k (x,A) (by simp)) (RL_evs xs As (by simpa using h) (fun p hp=>k p (by simp [hp])))
mutual
def AV.flt:AV->Bool
 | .val _=>true
 | .str _=>true
 | .agg cs=>fltL cs
 | .tup cs=>fltL cs
 | _=>false
def fltL:List AV->Bool
 | []=>true
 | a::l=>a.flt && fltL l
end
section
variable {β β':Nat->Plc} {D D' I I':Nat->Prop} {H H':Array Obj}
mutual
theorem R.flt:∀ {m a v},R β D I H m a v->a.flt=true->∀ m',R β' D' I' H' m' a v
 | _,_,_,.top m v,e,_=>by simp [AV.flt] at e
 | _,_,_,.val m v,_,m'=>.val m' v
 | _,_,_,.str m l,_,m'=>.str m' l
 | _,_,_,.agg h,e,m'=>.agg (RL.flt h (by simpa [AV.flt] using e) m')
 | _,_,_,.tup h,e,m'=>.tup (RL.flt h (by simpa [AV.flt] using e) m')
 | _,_,_,.sl _ _ _ _ _ _ _ _ _ _ _,e,_=>by simp [AV.flt] at e
 | _,_,_,.sl0,e,_=>by simp [AV.flt] at e
 | _,_,_,.ip _ _ _ _ _ _,e,_=>by simp [AV.flt] at e
 | _,_,_,.gp h,e,_=>by simp [AV.flt] at e
 | _,_,_,.ge h,e,_=>by simp [AV.flt] at e
 | _,_,_,.gs _ _ _ _,e,_=>by simp [AV.flt] at e
 | _,_,_,.fn _ _,e,_=>by simp [AV.flt] at e
 | _,_,_,.ifc _,e,_=>by simp [AV.flt] at e
 | _,_,_,.mp _,e,_=>by simp [AV.flt] at e
theorem RL.flt:∀ {m as vs},RL β D I H m as vs->fltL as=true->∀ m',RL β' D' I' H' m' as vs
 | _,_,_,.nil m,_,m'=>.nil m'
 | _,_,_,.cons h1 h2,e,m'=>.cons (R.flt h1 (by simp [fltL] at e;exact e.1) m') (RL.flt h2 (by simp [fltL] at e;exact e.2) m')
end
end
def frzW (fs:List (Nat×GE)):List (Nat×Option GE):=fs.map fun p=>(p.1,some (frzGE p.2))
def frzR (fs:List (Nat×GE)):List (Nat×Option GE):=fs.map fun p=>(p.1,some p.2)
def once:List (Nat×GE)->Bool
 | []=>true
 | p::l=>(lk l p.1).isNone && once l
theorem hset_frz:∀ (fs:List (Nat×GE)) (h:Nat->Option GE),once fs=true->hset h (frzW fs)=frzH h fs
 | [],h,_=>rfl
 | (k,g)::fs,h,ho=>by
  simp only [once,Bool.and_eq_true,Option.isNone_iff_eq_none] at ho
  simp only [frzW,List.map_cons,hset]
  have:=hset_frz fs (fun i=>if i=k then some (frzGE g) else h i) ho.2
  unfold frzW at this
  rw [this]
  funext i
  simp only [frzH,lk]
  by_cases hi:i=k
  ·subst hi;simp [ho.1]
  ·have:¬ k=i:=fun h=>hi h.symm
   simp [this,hi]
def Frzall (fs:List (Nat×GE)):Prop:=∀ p ∈ fs,Frzable p.2
theorem args_closed {E:Env} {σ:SS} {a:Act} {w:World} {β:Nat->Plc} {I:Nat->Prop} (r:RepAt E σ a w β I) {fs:List (Nat×GE)} (hfs:∀ p ∈ fs,σ.h p.1=some p.2) (hfz:Frzall fs)
 {As args:List AV} {vs:List Value} (hR:RL β (dom σ.h) I w.heap true As vs) (hle:LeL (clL fs As) args) (hcl:cloL args=true) :
 RepAt E ⟨σ.t,frzH σ.h fs⟩ a w β (fun b=>I b\/∃ p ∈ fs,Backed (β p.1) p.2/\(β p.1).b=b)/\RL β (dom (frzH σ.h fs)) (fun b=>I b\/∃ p ∈ fs,Backed (β p.1) p.2/\(β p.1).b=b) w.heap false args vs:=by
 have hf:∀ p ∈ fs,σ.h p.1=some p.2/\Frzable p.2:=fun p hp=>⟨hfs p hp,hfz p hp⟩
 have r2:=r.freeze hf
 refine ⟨r2,?_⟩
 have K:Keep β β (dom σ.h) (dom (frzH σ.h fs)) I (fun b=>I b\/∃ p ∈ fs,Backed (β p.1) p.2/\(β p.1).b=b) w.heap w.heap:=by
  refine ⟨fun i hi=>⟨?_,rfl⟩,fun b hb=>⟨.inl hb,rfl⟩⟩
  simp only [dom,frzH]
  split
  ·rfl
  ·exact hi
 have hfs2:∀ p ∈ fs,(⟨σ.t,frzH σ.h fs⟩:SS).h p.1=some (frzGE p.2)/\Frzable p.2:=by
  intro p hp
  refine ⟨?_,hfz p hp⟩
  show frzH σ.h fs p.1=_
  unfold frzH
  cases h:lk fs p.1 with
  | none =>
   exfalso
   have:∀ l:List (Nat×GE),p ∈ l->lk l p.1 ≠ none:=by
    intro l
    induction l with
    | nil=>intro h;cases h
    | cons q l ih =>
     intro hq
     obtain ⟨i',g'⟩:=q
     simp only [lk]
     split
     ·simp
     ·rename_i hne
      rcases List.mem_cons.1 hq with rfl|hq
      ·exact absurd rfl hne
      ·exact ih hq
   exact this fs hp h
  | some g =>
   have:=hfs _ (lk_mem h)
   rw [hfs p hp] at this
   cases this
   rfl
 exact (LeL.R hle (RL_clL r2 hfs2 (hR.keep K))).clo hcl
def Enters (P:Program) (o:Oper) (t:Nat->AV) (xs:List (Operand×AV)) (f:FuncId) (As:List AV):Prop :=
 (∀ p ∈ xs,evA t p.1=p.2)/\∀ (E:Env) (σ:SS) (a:Act) (w:World) (β:Nat->Plc) (I:Nat->Prop),RepAt E σ a w β I->(∀ p ∈ xs,R β (dom σ.h) I w.heap true p.2 (a.eval p.1)) →
  ∃ vs:List Value,(execOp a.eval o).run P w=.ok (.enter f vs.toArray) w/\RL β (dom σ.h) I w.heap true As vs
theorem enters_static {P:Program} {o:Oper} {t:Nat->AV} {f:FuncId} {xs:Array Operand} {ts:Array TypeId} {As:List AV}
 (ho:o.op=.call {callee:=.value (.func f),args:=xs,argTypes:=ts}) (hf:callable P f=true) (hAs:xs.toList.map (evA t)=As):Enters P o t (xs.toList.zip As) f As:=by
 have hlen:xs.toList.length=As.length:=by rw [<-hAs];simp
 refine ⟨fun p hp=>?_,fun E σ a w β I r h=>⟨xs.toList.map a.eval,?_,RL_evs _ _ hlen h⟩⟩
 ·rw [<-hAs,List.zip_map_right] at hp
  obtain ⟨q,hq,rfl⟩:=List.mem_map.1 hp
  obtain ⟨q1,q2⟩:=q
  have:q1=q2:=by
   have:∀ l:List Operand,(q1,q2) ∈ l.zip l->q1=q2:=by
    intro l
    induction l with
    | nil=>intro h;simp at h
    | cons z l ih=>intro h;simp only [List.zip_cons_cons,List.mem_cons] at h;rcases h with h|h;cases h;rfl;exact ih h
   exact this _ hq
  subst this;rfl
 ·rw [exec_call ho hf,<-Array.toList_map]
theorem upon_enters {P:Program} {o:Oper} {a:Act} {w:World} {K:Act->World->Prop} {Q:Exit->Act->World->Prop} {f:FuncId} {vs:List Value} {R:Ending->World->Prop}
 (he:(execOp a.eval o).run P w=.ok (.enter f vs.toArray) w) (hc:Calls P f vs.toArray w R) (hR:∀ e w',R e w'->∃ v,e=.returned v/\K (a.put o.dst v) w'):o.wp P a w K Q:=by
 unfold Oper.wp
 rw [he,Oper.upon_enter]
 refine hc.mono fun e w' h=>?_
 obtain ⟨v,rfl,hk⟩:=hR e w' h
 exact hk
theorem ok_call {P:Program} {W:World} {o:Oper} {t:Nat->AV} {f:FuncId} {xs:List (Operand×AV)} {As args:List AV} {fs:List (Nat×GE)} {r:AV}
 (he:Enters P o t xs f As) (hfz:Frzall fs) (hon:once fs=true)
 (hle:LeL (clL fs As) args) (hcl:cloL args=true) (hc:Pure P W f args r) :
 LocalOKW P W o {rt:=rds xs,rh:=frzR fs,dst:=o.dst,v:=r,wh:=frzW fs}:=by
 intro E σ a w K Q hg hN hr ⟨β,I,ra⟩ hk
 obtain ⟨vs,hex,hR⟩:=he.2 E σ a w β I ra fun p hp=>R_ev ra (ev_reads (he.1 p hp) (fun q hq=>hr.1 q (List.mem_flatMap.2 ⟨p,hp,hq⟩)))
 obtain ⟨r2,hR2⟩:=args_closed ra (fun p hp=>hr.2 (p.1,some p.2) (List.mem_map.2 ⟨p,hp,rfl⟩)) hfz hR hle hcl
 refine upon_enters hex (R:=_) (hc β _ _ w _ (r2.over hg) r2.inv.imm hR2) ?_
 rintro e w' ⟨I',v,rfl,hv,hx⟩
 refine ⟨v,rfl,hk _ _ ⟨β,I',?_⟩⟩
 have:=r2.ext hx (dst:=o.dst) (res:=r) (v:=v) hN (hv.closed (fun b hb=>⟨hb,rfl⟩) rfl true)
 simp only [SS.upd,hset_frz _ _ hon]
 exact this
theorem ok_callFlat {P:Program} {W:World} {o:Oper} {t:Nat->AV} {f:FuncId} {xs:List (Operand×AV)} {As args:List AV} {fs:List (Nat×GE)} {r:AV}
 (he:Enters P o t xs f As) (hfz:Frzall fs)
 (hle:LeL (clL fs As) args) (hcl:cloL args=true) (hfl:r.flt=true) (hc:Pure P W f args r) :
 LocalOKW P W o {rt:=rds xs,rh:=frzR fs,dst:=o.dst,v:=r,wh:=[]}:=by
 intro E σ a w K Q hg hN hr ⟨β,I,ra⟩ hk
 obtain ⟨vs,hex,hR⟩:=he.2 E σ a w β I ra fun p hp=>R_ev ra (ev_reads (he.1 p hp) (fun q hq=>hr.1 q (List.mem_flatMap.2 ⟨p,hp,hq⟩)))
 obtain ⟨r2,hR2⟩:=args_closed ra (fun p hp=>hr.2 (p.1,some p.2) (List.mem_map.2 ⟨p,hp,rfl⟩)) hfz hR hle hcl
 refine upon_enters hex (R:=_) (hc β _ _ w _ (r2.over hg) r2.inv.imm hR2) ?_
 rintro e w' ⟨I',v,rfl,hv,hx⟩
 have hx2:Ext I (fun b=>I b\/(I' b/\w.heap.size<=b)) w w' :=
  ⟨hx.heap,hx.size,hx.os,hx.tape,hx.output,fun b hb=>.inl hb,fun b hb=>by
   rcases hb with hb|⟨hb,hle⟩
   ·have:=ra.inv.imm b hb;have:=hx.size;exact ⟨by omega,fun _=>hb⟩
   ·exact ⟨(hx.new b hb).1,fun h=>by omega⟩⟩
 exact ⟨v,rfl,hk _ _ ⟨β,_,ra.ext hx2 (dst:=o.dst) (res:=r) (v:=v) hN (hv.flt hfl true)⟩⟩
end Go.Ac

namespace Go.Ac
open Go
def StepW (P:Program) (W:World) (ops:Array Oper) (i:Nat) (f:Eff):Prop :=
 ∀ (E:Env) (σ:SS) (a:Act) (w:World) (K:Act->World->Prop) (Q:Exit->Act->World->Prop),E.good W->(∀ d,f.dst=some d->d<E.N)->Reads σ f->Rep E σ a w →
  (∀ a' w',Rep E (σ.upd f) a' w'->K a' w')->wpOp P ops Q i K a w
theorem stepW_plain {P:Program} {W:World} {ops:Array Oper} {i:Nat} {o:Oper} {f:Eff} (hi:ops[i]?=some o) (hg:o.guard=none) (h:LocalOKW P W o f):StepW P W ops i f:=by
 intro E σ a w K Q h1 h2 h3 h4 h5
 simp only [wpOp,hi,Region.wanted,hg,if_true]
 exact .inl (h E σ a w K Q h1 h2 h3 h4 h5)
theorem yielded_of {ops:Array Oper} {σ:SS} {E:Env} {a:Act} {w:World} {j d:Nat} {b:Bool} (hj:(ops[j]?).bind (·.dst)=some d) (hr:Rep E σ a w) (hd:σ.t d=.val (.bool b)) :
 yielded ops a.tmps j=some b:=by
 obtain ⟨β,I,r⟩:=hr
 have h:=r.tmps d
 rw [hd] at h
 have h2:=h.val_inv
 have h3:a.tmps[d]?=some (.bool b):=by
  rw [Array.getD_eq_getD_getElem?] at h2
  cases h4:a.tmps[d]? with
  | none=>rw [h4] at h2;simp [undef] at h2
  | some v=>rw [h4] at h2;simp at h2;rw [h2]
 simp only [yielded,hj,Option.bind_some,h3]
theorem stepW_yes {P:Program} {W:World} {ops:Array Oper} {i j d:Nat} {o:Oper} {f:Eff} {b:Bool} (hi:ops[i]?=some o) (hg:o.guard=some (j,b)) (hj:(ops[j]?).bind (·.dst)=some d) (h:LocalOKW P W o f) :
 StepW P W ops i {f with rt:=(d,.val (.bool b))::f.rt}:=by
 intro E σ a w K Q h1 h2 h3 h4 h5
 have hy:=yielded_of hj h4 (h3.1 (d,.val (.bool b)) (by simp))
 simp only [wpOp,hi,Region.wanted,hg,hy,beq_self_eq_true,if_true]
 exact .inl (h E σ a w K Q h1 h2 ⟨fun p hp=>h3.1 p (by simp [hp]),h3.2⟩ h4 h5)
theorem Rep.put {E:Env} {σ:SS} {a:Act} {w:World} (hr:Rep E σ a w) {dst:Option Nat} (hd:∀ d,dst=some d->d<E.N) (v:Value):Rep E ⟨tset σ.t dst (.val v),σ.h⟩ (a.put dst v) w:=by
 obtain ⟨β,I,r⟩:=hr
 exact ⟨β,I,r.put hd (.val _ _)⟩
theorem yielded_un {ops:Array Oper} {σ:SS} {E:Env} {a:Act} {w:World} {j d:Nat} (hj:(ops[j]?).bind (·.dst)=some d) (hr:Rep E σ a w) (hd:σ.t d=.val undef) :
 yielded ops a.tmps j=none:=by
 obtain ⟨β,I,r⟩:=hr
 have h:=r.tmps d
 rw [hd] at h
 have h2:=h.val_inv
 rw [Array.getD_eq_getD_getElem?] at h2
 simp only [yielded,hj,Option.bind_some]
 cases h4:a.tmps[d]? with
 | none=>rfl
 | some v=>rw [h4] at h2;simp only [Option.getD_some] at h2;rw [h2];rfl
theorem stepW_un {P:Program} {W:World} {ops:Array Oper} {i j d:Nat} {o:Oper} {b:Bool} (hi:ops[i]?=some o) (hg:o.guard=some (j,b)) (hj:(ops[j]?).bind (·.dst)=some d) :
 StepW P W ops i {rt:=[(d,.val undef)],rh:=[],dst:=o.dst,v:=.val undef,wh:=[]}:=by
 intro E σ a w K Q h1 h2 h3 h4 h5
 have hy:=yielded_un hj h4 (h3.1 (d,.val undef) (by simp))
 have hne:((none:Option Bool) == some b)=false:=rfl
 simp only [wpOp,hi,Region.wanted,hg,hy,hne,Bool.false_eq_true,if_false]
 exact h5 _ _ (h4.put h2 undef)
theorem stepW_no {P:Program} {W:World} {ops:Array Oper} {i j d:Nat} {o:Oper} {b:Bool} (hi:ops[i]?=some o) (hg:o.guard=some (j,b)) (hj:(ops[j]?).bind (·.dst)=some d) :
 StepW P W ops i {rt:=[(d,.val (.bool (!b)))],rh:=[],dst:=o.dst,v:=.val undef,wh:=[]}:=by
 intro E σ a w K Q h1 h2 h3 h4 h5
 have hy:=yielded_of hj h4 (h3.1 (d,.val (.bool (!b))) (by simp))
 have hne:(some (!b) == some b)=false:=by cases b<;>rfl
 simp only [wpOp,hi,Region.wanted,hg,hy,hne,Bool.false_eq_true,if_false]
 exact h5 _ _ (h4.put h2 undef)
def runs (σ:SS):List Eff->SS
 | []=>σ
 | f::fs=>runs (σ.upd f) fs
def ReadsAll (σ:SS):List Eff->Prop
 | []=>True
 | f::fs=>Reads σ f/\ReadsAll (σ.upd f) fs
def dstsOk (N:Nat) (fs:List Eff):Prop:=∀ f ∈ fs,∀ d,f.dst=some d->d<N
def StepsW (P:Program) (W:World) (ops:Array Oper) (fs:List Eff):Prop:=∀ i f,fs[i]?=some f->StepW P W ops i f
theorem seq_sound {P:Program} {W:World} {ops:Array Oper} {E:Env} {Q:Exit->Act->World->Prop} (g:E.good W):∀ (fs:List Eff) (i0:Nat) (σ:SS) (a:Act) (w:World),(∀ i f,fs[i]?=some f->StepW P W ops (i0+i) f)->dstsOk E.N fs->ReadsAll σ fs →
 Rep E σ a w->(∀ a' w',Rep E (runs σ fs) a' w'->Q .normal a' w')->wpOps P ops Q ((List.range fs.length).map (i0+·)) a w
 | [],i0,σ,a,w,_,_,_,hr,hq=>by simp only [List.length_nil,List.range_zero,List.map_nil,wpOps];exact hq a w hr
 | f::fs,i0,σ,a,w,hs,hd,hra,hr,hq=>by
  rw [List.length_cons,List.range_succ_eq_map,List.map_cons,List.map_map,wpOps_cons]
  have h0:=hs 0 f rfl
  simp only [Nat.add_zero] at h0 ⊢
  refine h0 E σ a w _ Q g (hd f (by simp)) hra.1 hr fun a' w' hr'=>?_
  have:=seq_sound g fs (i0+1) (σ.upd f) a' w' (fun i f' hi=>by have:=hs (i+1) f' (by simpa using hi);rwa [show i0+1+i=i0+(i+1) by omega]) (fun f' hf'=>hd f' (by simp [hf'])) hra.2 hr' hq
  have hmap:(List.range fs.length).map ((i0+·) ∘ Nat.succ)=(List.range fs.length).map (i0+1+·):=by
   apply List.map_congr_left;intro x _;simp only [Function.comp];omega
  rw [hmap]
  exact this
theorem region_seq {P:Program} {W:World} {ops:Array Oper} {E:Env} {Q:Exit->Act->World->Prop} {id:Nat} (g:E.good W) {fs:List Eff} {σ:SS} {a:Act} {w:World} (hl:fs.length=ops.size) (hs:StepsW P W ops fs)
 (hd:dstsOk E.N fs) (hra:ReadsAll σ fs) (hr:Rep E σ a w) (hq:∀ a' w',Rep E (runs σ fs) a' w'->Q .normal a' w'):(Code.region id ops false).wp P Q a w:=by
 refine wp_region ?_
 have:=seq_sound (P:=P) (ops:=ops) (Q:=Q) g fs 0 σ a w (fun i f hi=>by rw [Nat.zero_add];exact hs i f hi) hd hra hr hq
 rw [hl] at this
 simpa using this
def put1 {X:Type} (g:Nat->X):List (Nat×X)->Nat->X
 | []=>g
 | (k,v)::l=>put1 (fun i=>if i=k then v else g i) l
def keys {X:Type} (l:List (Nat×X)):List Nat:=l.map (·.1)
theorem put1_not {X:Type}:∀ (l:List (Nat×X)) (g:Nat->X) (x:Nat),x ∉ keys l->put1 g l x=g x
 | [],_,_,_=>rfl
 | (k,v)::l,g,x,h=>by
  simp only [keys,List.map_cons,List.mem_cons,not_or] at h
  simp only [put1]
  rw [put1_not l _ x h.2,if_neg h.1]
theorem put1_congr {X:Type}:∀ (l:List (Nat×X)) (g g':Nat->X) (x:Nat),(x ∉ keys l->g x=g' x)->put1 g l x=put1 g' l x
 | [],_,_,_,h=>h (by simp [keys])
 | (k,v)::l,g,g',x,h=>by
  simp only [put1]
  refine put1_congr l _ _ x fun hx=>?_
  by_cases e:x=k
  ·simp [e]
  ·simp only [if_neg e]
   exact h (by simp only [keys,List.map_cons,List.mem_cons,not_or];exact ⟨e,hx⟩)
def seqOn {X:Type} (L:Nat->Bool) (g:Nat->X):List (List (Nat×X))->Nat->Nat->X
 | [],_=>g
 | w::ws,i=>seqOn L (bif L i then put1 g w else g) ws (i+1)
theorem seqOn_congr {X:Type} (L L':Nat->Bool) (x:Nat):∀ (ws:List (List (Nat×X))) (i0:Nat) (g g':Nat->X),g x=g' x->(∀ j w,ws[j]?=some w->L (i0+j) ≠ L' (i0+j)->x ∉ keys w) →
 seqOn L g ws i0 x=seqOn L' g' ws i0 x
 | [],_,_,_,h,_=>h
 | w::ws,i0,g,g',h,hd=>by
  simp only [seqOn]
  refine seqOn_congr L L' x ws (i0+1) _ _ ?_ (fun j w' hj hne=>hd (j+1) w' (by simpa using hj) (by rwa [show i0+(j+1)=i0+1+j by omega]))
  have h0:=hd 0 w rfl
  rw [Nat.add_zero] at h0
  cases hL:L i0<;>cases hL':L' i0
  ·exact h
  ·rw [hL,hL'] at h0
   simp only [cond_true,cond_false]
   rw [put1_not _ _ _ (h0 (by simp))];exact h
  ·rw [hL,hL'] at h0
   simp only [cond_true,cond_false]
   rw [put1_not _ _ _ (h0 (by simp))];exact h
  ·simp only [cond_true]
   exact put1_congr _ _ _ _ fun _=>h
theorem seqOn_insert {X:Type} (L:Nat->Bool) (i:Nat) (x:Nat) (hLi:L i=false):∀ (ws:List (List (Nat×X))) (i0:Nat) (g:Nat->X) (wi:List (Nat×X)),i0<=i->ws[i - i0]?=some wi →
 (∀ j w,ws[j]?=some w->i<i0+j->L (i0+j)=true->x ∈ keys wi->x ∉ keys w) →
 seqOn (fun q=>if q=i then true else L q) g ws i0 x=put1 (seqOn L g ws i0) wi x
 | [],i0,g,wi,_,h,_=>by simp at h
 | w::ws,i0,g,wi,hle,h,hd=>by
  by_cases e:i0=i
  ·subst e
   simp only [Nat.sub_self,List.getElem?_cons_zero,Option.some.injEq] at h
   subst h
   simp only [seqOn,if_true,cond_true,hLi,cond_false]
   by_cases hx:x ∈ keys w
   ·have h1:seqOn (fun q=>if q=i0 then true else L q) (put1 g w) ws (i0+1) x=seqOn (fun _=>false) (put1 g w) ws (i0+1) x :=
     seqOn_congr _ _ x ws (i0+1) _ _ rfl fun j w' hj hne=>by
      have hne':¬ i0+1+j=i0:=by omega
      simp only [hne',if_false,ne_eq,Bool.not_eq_false] at hne
      exact hd (j+1) w' (by simpa using hj) (by omega) (by rw [<-hne];congr 1;omega) hx
    have h2:∀ (ws:List (List (Nat×X))) (i:Nat) (g:Nat->X),seqOn (fun _=>false) g ws i=g:=by
     intro ws
     induction ws with
     | nil=>intro i g;rfl
     | cons w ws ih=>intro i g;simp only [seqOn,cond_false];exact ih _ _
    rw [h1,h2]
    exact put1_congr _ _ _ _ fun h=>absurd hx h
   ·rw [put1_not _ _ _ hx]
    refine seqOn_congr _ _ x ws (i0+1) _ _ (put1_not _ _ _ hx) fun j w' hj hne=>?_
    have hne':¬ i0+1+j=i0:=by omega
    simp only [hne',if_false,ne_eq,not_true_eq_false] at hne
  ·have hlt:i0+1<=i:=by omega
   simp only [seqOn,if_neg e]
   refine seqOn_insert L i x hLi ws (i0+1) _ wi hlt ?_ (fun j w' hj h1 h2 h3=>hd (j+1) w' (by simpa using hj) (by omega) (by rw [show i0+(j+1)=i0+1+j by omega];exact h2) h3)
   rw [show i - i0=(i - (i0+1))+1 by omega] at h
   simpa using h
def wT (f:Eff):List (Nat×AV):=match f.dst with|some d=>[(d,f.v)]|none=>[]
theorem tset_put1 (t:Nat->AV) (f:Eff):tset t f.dst f.v=put1 t (wT f):=by
 unfold wT
 cases f.dst<;>rfl
theorem hset_put1:∀ (l:List (Nat×Option GE)) (h:Nat->Option GE),hset h l=put1 h l
 | [],_=>rfl
 | (k,g)::l,h=>by simp only [hset,put1];exact hset_put1 l _
def stOn (L:Nat->Bool) (σ:SS) (fs:List Eff):SS:=⟨seqOn L σ.t (fs.map wT) 0,seqOn L σ.h (fs.map (·.wh)) 0⟩
def touch (f g:Eff):Bool :=
 (keys (wT f)).any (fun x=>(keys g.rt).contains x || (keys (wT g)).contains x) || (keys f.rt).any (fun x=>(keys (wT g)).contains x) ||
 (keys f.wh).any (fun x=>(keys g.rh).contains x || (keys g.wh).contains x) || (keys f.rh).any (fun x=>(keys g.wh).contains x)
def ancs:List Oper->List (List Nat)->List (List Nat)
 | [],acc=>acc
 | o::l,acc=>ancs l (acc++[(o.after.toList.filter (Region.binds .any)).flatMap fun e=>e.on::(acc[e.on]?).getD []])
def edgesOk:List Oper->Nat->Bool
 | [],_=>true
 | o::l,i=>o.after.toList.all (fun e=>!Region.binds .any e || decide (e.on<i)) && edgesOk l (i+1)
def ordOk (A:List (List Nat)):List Eff->Nat->Bool
 | [],_=>true
 | f::fs,i=>((List.range fs.length).all fun q=>!touch f (fs.getD q {}) || ((A[i+1+q]?).getD []).contains i) && ordOk A fs (i+1)
theorem ancs_closed (S:Nat->Prop):∀ (l:List Oper) (acc:List (List Nat)),(∀ (j:Nat) (as:List Nat),acc[j]?=some as->∀ i ∈ as,S j->S i) →
 (∀ (j:Nat) (o:Oper),l[j]?=some o->S (acc.length+j)->∀ e ∈ o.after.toList,Region.binds .any e=true->S e.on) →
 ∀ (j:Nat) (as:List Nat),(ancs l acc)[j]?=some as->∀ i ∈ as,S j->S i
 | [],acc,h,_=>h
 | o::l,acc,h,ho=>by
  refine ancs_closed S l _ ?_ ?_
  ·intro j as hj i hi hS
   by_cases hlt:j<acc.length
   ·rw [List.getElem?_append_left hlt] at hj
    exact h j as hj i hi hS
   ·rw [List.getElem?_append_right (by omega)] at hj
    have hj0:j=acc.length:=by
     cases hq:j - acc.length with
     | zero=>omega
     | succ q=>rw [hq] at hj;simp at hj
    subst hj0
    simp only [Nat.sub_self,List.getElem?_cons_zero,Option.some.injEq] at hj
    subst hj
    obtain ⟨e,he,hi⟩:=List.mem_flatMap.1 hi
    obtain ⟨he1,he2⟩:=List.mem_filter.1 he
    have hSe:=ho 0 o rfl (by simpa using hS) e he1 he2
    rcases List.mem_cons.1 hi with rfl|hi
    ·exact hSe
    ·cases hacc:acc[e.on]? with
     | none=>rw [hacc] at hi;simp at hi
     | some as'=>rw [hacc] at hi;exact h e.on as' hacc i (by simpa using hi) hSe
  ·intro j o' hj hS e he hb
   refine ho (j+1) o' (by simpa using hj) ?_ e he hb
   rw [List.length_append] at hS
   rwa [show acc.length+(j+1)=acc.length+[(o.after.toList.filter (Region.binds .any)).flatMap fun e=>e.on::(acc[e.on]?).getD []].length+j by simp;omega]
theorem edgesOk_spec:∀ (l:List Oper) (i0:Nat),edgesOk l i0=true->∀ (j:Nat) (o:Oper),l[j]?=some o->∀ e ∈ o.after.toList,Region.binds .any e=true->e.on<i0+j
 | [],_,_,j,o,hj,_,_,_=>by simp at hj
 | o::l,i0,h,j,o',hj,e,he,hb=>by
  simp only [edgesOk,Bool.and_eq_true] at h
  cases j with
  | zero =>
   simp only [List.getElem?_cons_zero,Option.some.injEq] at hj
   subst hj
   have:=List.all_eq_true.1 h.1 e he
   simp only [hb,Bool.not_true,Bool.false_or,decide_eq_true_eq] at this
   omega
  | succ j =>
   have:=edgesOk_spec l (i0+1) h.2 j o' (by simpa using hj) e he hb
   omega
theorem ordOk_spec (A:List (List Nat)):∀ (fs:List Eff) (i0:Nat),ordOk A fs i0=true->∀ (i j:Nat) (f g:Eff),i<j->fs[i]?=some f->fs[j]?=some g->touch f g=false\/∃ as,A[i0+j]?=some as/\i0+i ∈ as
 | [],_,_,i,j,f,g,_,hf,_=>by simp at hf
 | f0::fs,i0,h,i,j,f,g,hij,hf,hg=>by
  simp only [ordOk,Bool.and_eq_true] at h
  cases j with
  | zero=>omega
  | succ j =>
   simp only [List.getElem?_cons_succ] at hg
   cases i with
   | zero =>
    simp only [List.getElem?_cons_zero,Option.some.injEq] at hf
    subst hf
    have hlt:j<fs.length:=(List.getElem?_eq_some_iff.1 hg).1
    have:=List.all_eq_true.1 h.1 j (List.mem_range.2 hlt)
    simp only [List.getD_eq_getElem?_getD,hg,Option.getD_some,Bool.or_eq_true,Bool.not_eq_true'] at this
    rcases this with h1|h1
    ·exact .inl h1
    ·right
     cases hA:A[i0+1+j]? with
     | none=>rw [hA] at h1;simp at h1
     | some as=>rw [hA] at h1;exact ⟨as,by rw [<-hA];congr 1;omega,by simpa using h1⟩
   | succ i =>
    have:=ordOk_spec A fs (i0+1) h.2 i j f g (by omega) (by simpa using hf) hg
    rw [show i0+1+j=i0+(j+1) by omega,show i0+1+i=i0+(i+1) by omega] at this
    exact this
theorem any_true {α:Type} {l:List α} {p:α->Bool} {x:α} (h:l.any p=false) (hx:x ∈ l):p x=false:=by
 cases hp:p x with
 | false=>rfl
 | true=>rw [List.any_eq_false] at h;exact absurd hp (h x hx)
theorem touch_spec {f g:Eff} (h:touch f g=false) :
 (∀ x ∈ keys (wT f),x ∉ keys g.rt/\x ∉ keys (wT g))/\(∀ x ∈ keys f.rt,x ∉ keys (wT g))/\(∀ x ∈ keys f.wh,x ∉ keys g.rh/\x ∉ keys g.wh)/\(∀ x ∈ keys f.rh,x ∉ keys g.wh):=by
 simp only [touch,Bool.or_eq_false_iff] at h
 obtain ⟨⟨⟨h1,h2⟩,h3⟩,h4⟩:=h
 refine ⟨fun x hx=>?_,fun x hx=>?_,fun x hx=>?_,fun x hx=>?_⟩
 ·have:=any_true h1 hx
  simp only [Bool.or_eq_false_iff] at this
  exact ⟨fun h=>by simp [h] at this,fun h=>by simp [h] at this⟩
 ·have:=any_true h2 hx
  exact fun h=>by simp [h] at this
 ·have:=any_true h3 hx
  simp only [Bool.or_eq_false_iff] at this
  exact ⟨fun h=>by simp [h] at this,fun h=>by simp [h] at this⟩
 ·have:=any_true h4 hx
  exact fun h=>by simp [h] at this
theorem runs_stOn:∀ (fs:List Eff) (σ:SS) (i0:Nat),runs σ fs=⟨seqOn (fun _=>true) σ.t (fs.map wT) i0,seqOn (fun _=>true) σ.h (fs.map (·.wh)) i0⟩
 | [],_,_=>rfl
 | f::fs,σ,i0=>by
  simp only [runs,List.map_cons,seqOn,cond_true]
  rw [runs_stOn fs (σ.upd f) (i0+1)]
  simp only [SS.upd,tset_put1,hset_put1]
theorem readsAll_at:∀ (fs:List Eff) (σ:SS) (i0:Nat),ReadsAll σ fs->∀ (i:Nat) (f:Eff),fs[i]?=some f →
 Reads ⟨seqOn (fun q=>decide (q<i0+i)) σ.t (fs.map wT) i0,seqOn (fun q=>decide (q<i0+i)) σ.h (fs.map (·.wh)) i0⟩ f
 | [],_,_,_,i,f,hf=>by simp at hf
 | f0::fs,σ,i0,h,i,f,hf=>by
  cases i with
  | zero =>
   simp only [List.getElem?_cons_zero,Option.some.injEq] at hf
   subst hf
   have hnil:∀ {X:Type} (ws:List (List (Nat×X))) (j:Nat) (g:Nat->X),i0<=j->seqOn (fun q=>decide (q<i0+0)) g ws j=g:=by
    intro X ws
    induction ws with
    | nil=>intro j g _;rfl
    | cons w ws ih =>
     intro j g hj
     simp only [seqOn,show decide (j<i0+0)=false by simp;omega,cond_false]
     exact ih _ _ (by omega)
   rw [hnil _ _ _ (Nat.le_refl _),hnil _ _ _ (Nat.le_refl _)]
   exact h.1
  | succ i =>
   have:=readsAll_at fs (σ.upd f0) (i0+1) h.2 i f (by simpa using hf)
   simp only [List.map_cons,seqOn,show decide (i0<i0+(i+1))=true by simp,cond_true]
   simp only [SS.upd,tset_put1,hset_put1] at this
   rw [show i0+1+i=i0+(i+1) by omega] at this
   exact this
theorem keys_get {X:Type} {l:List (Nat×X)} {p:Nat×X} (h:p ∈ l):p.1 ∈ keys l:=List.mem_map.2 ⟨p,h,rfl⟩
theorem Rep.drew {E:Env} {σ:SS} {a:Act} {w:World} (hr:Rep E σ a w):Rep E σ a {w with drawn:=w.drawn+1}:=by
 obtain ⟨β,I,r⟩:=hr
 obtain ⟨h1,h2,⟨f1,f2,f3,f4,f5,f6,f7,f8,f9⟩,h4,h5⟩:=r
 exact ⟨β,I,h1,h2,⟨f1,f2,f3,f4,f5,f6,f7,f8,f9⟩,h4,h5⟩
theorem filter_le {p q:Nat->Bool} (hle:∀ x,q x=true->p x=true):∀ l:List Nat,(l.filter q).length<=(l.filter p).length
 | []=>by simp
 | x::l=>by
  have:=filter_le hle l
  cases hq:q x with
  | true=>simp [List.filter_cons,hq,hle x hq];exact this
  | false=>cases hp:p x<;>simp [List.filter_cons,hq,hp]<;>omega
theorem filter_lt {p q:Nat->Bool} (hle:∀ x,q x=true->p x=true) (i:Nat) (hp:p i=true) (hq:q i=false):∀ l:List Nat,i ∈ l->(l.filter q).length<(l.filter p).length
 | [],h=>by cases h
 | x::l,h=>by
  rcases List.mem_cons.1 h with h|h
  ·subst h
   have:=filter_le hle l
   simp [List.filter_cons,hp,hq];omega
  ·have:=filter_lt hle i hp hq l h
   cases hqx:q x with
   | true=>simp [List.filter_cons,hqx,hle x hqx];exact this
   | false=>cases hpx:p x<;>simp [List.filter_cons,hqx,hpx]<;>omega
section
variable {P:Program} {W:World} {ops:Array Oper} {E:Env} {Q:Exit->Act->World->Prop} {fs:List Eff} {σ:SS}
def Lof (listed:Array Bool):Nat->Bool:=fun i=>listed.getD i false
theorem mem_ready {listed:Array Bool} {i:Nat}:i ∈ Region.ready .any ops listed ↔ i<ops.size/\listed.getD i true=false/\∃ o,ops[i]?=some o/\∀ e ∈ o.after.toList,Region.binds .any e=true->listed.getD e.on false=true:=by
 simp only [Region.ready,List.mem_filter,List.mem_range,Bool.and_eq_true,Bool.not_eq_true']
 constructor
 ·rintro ⟨h1,h2,h3⟩
  refine ⟨h1,h2,?_⟩
  cases ho:ops[i]? with
  | none=>rw [ho] at h3;cases h3
  | some o =>
   rw [ho] at h3
   simp only [Option.map_some,Option.getD_some,Array.all_eq_true_iff_forall_mem] at h3
   refine ⟨o,rfl,fun e he hb=>?_⟩
   have:=h3 e (by simpa using he)
   simpa [hb] using this
 ·rintro ⟨h1,h2,o,ho,h3⟩
  refine ⟨h1,h2,?_⟩
  rw [ho]
  simp only [Option.map_some,Option.getD_some,Array.all_eq_true_iff_forall_mem]
  intro e he
  cases hb:Region.binds .any e with
  | false=>rfl
  | true=>simpa using h3 e (by simpa using he) hb
theorem any_sound (g:E.good W) (hl:fs.length=ops.size) (hs:StepsW P W ops fs) (hd:dstsOk E.N fs) (hra:ReadsAll σ fs) (he:edgesOk ops.toList 0=true) (ho:ordOk (ancs ops.toList []) fs 0=true)
 (hq:∀ a' w',Rep E (runs σ fs) a' w'->Q .normal a' w'):∀ (fuel:Nat) (listed:Array Bool) (a:Act) (w:World),listed.size=ops.size->((List.range ops.size).filter fun i=>!Lof listed i).length<=fuel →
 (∀ (j:Nat) (o:Oper),ops[j]?=some o->Lof listed j=true->∀ e ∈ o.after.toList,Region.binds .any e=true->Lof listed e.on=true) →
 Rep E (stOn (Lof listed) σ fs) a w->wpAny P .any ops Q fuel listed a w:=by
 have full:∀ (listed:Array Bool),listed.size=ops.size->Region.ready .any ops listed=[]->∀ i,i<ops.size->Lof listed i=true:=by
  intro listed hsz hrd i
  induction i using Nat.strongRecOn with
  | _ i ih =>
   intro hi
   cases hL:Lof listed i with
   | true=>rfl
   | false =>
    exfalso
    have hmem:i ∈ Region.ready .any ops listed:=by
     rw [mem_ready]
     have hgd:∀ b,listed.getD i b=listed[i]'(by omega):=fun b=>by simp [Array.getD,show i<listed.size by omega]
     refine ⟨hi,by rw [hgd];unfold Lof at hL;rwa [hgd] at hL,ops[i],by simp [hi],fun e hee hb=>?_⟩
     have hlt:=edgesOk_spec ops.toList 0 he i ops[i] (by simp [hi]) e hee hb
     exact ih e.on (by omega) (by omega)
    rw [hrd] at hmem
    cases hmem
 have fin:∀ (listed:Array Bool) (a:Act) (w:World),listed.size=ops.size->Region.ready .any ops listed=[]->Rep E (stOn (Lof listed) σ fs) a w->Q .normal a w:=by
  intro listed a w hsz hrd hr
  refine hq a w ?_
  have hall:=full listed hsz hrd
  have heq:∀ {X:Type} (g:Nat->X) (ws:List (List (Nat×X))),ws.length=ops.size->seqOn (Lof listed) g ws 0=seqOn (fun _=>true) g ws 0:=by
   intro X g ws hws
   funext x
   refine seqOn_congr _ _ x ws 0 g g rfl fun j w hj hne=>?_
   have hlt:j<ws.length:=(List.getElem?_eq_some_iff.1 hj).1
   rw [Nat.zero_add] at hne
   exact absurd (hall j (by omega)) hne
  rw [runs_stOn fs σ 0]
  unfold stOn at hr
  rw [heq _ _ (by simp [hl]),heq _ _ (by simp [hl])] at hr
  exact hr
 intro fuel
 induction fuel with
 | zero =>
  intro listed a w hsz hc hcl hr
  have hrd:Region.ready .any ops listed=[]:=by
   apply List.eq_nil_iff_forall_not_mem.2
   intro i hi
   rw [mem_ready] at hi
   obtain ⟨h1,h2,_⟩:=hi
   have:i ∈ (List.range ops.size).filter fun i=>!Lof listed i:=by
    rw [List.mem_filter]
    refine ⟨List.mem_range.2 h1,?_⟩
    have hgd:∀ b,listed.getD i b=listed[i]'(by omega):=fun b=>by simp [Array.getD,show i<listed.size by omega]
    unfold Lof;rw [hgd] at h2 ⊢;simp [h2]
   have h0:=List.eq_nil_of_length_eq_zero (Nat.le_zero.1 hc)
   rw [h0] at this
   cases this
  exact ⟨hrd,fin listed a w hsz hrd hr⟩
 | succ fuel ih =>
  intro listed a w hsz hc hcl hr
  refine ⟨fun hrd=>fin listed a w hsz hrd hr,fun i hi=>?_⟩
  rw [mem_ready] at hi
  obtain ⟨hilt,hi1,o,hio,hi2⟩:=hi
  have hgd:∀ b,listed.getD i b=listed[i]'(by omega):=fun b=>by simp [Array.getD,show i<listed.size by omega]
  have hLi:Lof listed i=false:=by unfold Lof;rw [hgd] at hi1 ⊢;exact hi1
  obtain ⟨f,hf⟩:∃ f,fs[i]?=some f:=⟨fs[i]'(by omega),by simp [show i<fs.length by omega]⟩
  have hanc:∀ (j:Nat) (as:List Nat),(ancs ops.toList [])[j]?=some as->∀ q ∈ as,Lof listed j=true->Lof listed q=true :=
   ancs_closed (fun j=>Lof listed j=true) ops.toList [] (by simp) (fun j o hj hS e hee hb=>hcl j o (by simpa using hj) (by simpa using hS) e hee hb)
  have hself:∀ (as:List Nat),(ancs ops.toList [])[i]?=some as->∀ q ∈ as,Lof listed q=true:=by
   intro as has q hqa
   have:=ancs_closed (fun j=>Lof listed j=true\/j=i) ops.toList [] (by simp) (fun j o' hj hS e hee hb=>by
    rcases hS with hS|hS
    ·exact .inl (hcl j o' (by simpa using hj) (by simpa using hS) e hee hb)
    ·simp only [List.length_nil,Nat.zero_add] at hS
     subst hS
     have:o'=o:=by
      have h1:ops[j]?=some o':=by simpa using hj
      rw [hio] at h1;cases h1;rfl
     subst this
     exact .inl (hi2 e hee hb)) i as has q hqa (.inr rfl)
   rcases this with h|h
   ·exact h
   ·-- q=i: not possible,its edges go back
    subst h
    exfalso
    have:=ancs_closed (fun j=>j<q\/(j=q)) ops.toList [] (by simp) (fun j o' hj hS e hee hb=>by
     have hlt:=edgesOk_spec ops.toList 0 he j o' hj e hee hb
     simp only [List.length_nil,Nat.zero_add] at hS hlt
     left;omega) q as has q hqa (.inr rfl)
    have strict:∀ (l:List Oper) (acc:List (List Nat)),(∀ (j:Nat) (as:List Nat),acc[j]?=some as->∀ i ∈ as,i<j)->(∀ (j:Nat) (o:Oper),l[j]?=some o->∀ e ∈ o.after.toList,Region.binds .any e=true->e.on<acc.length+j) →
     ∀ (j:Nat) (as:List Nat),(ancs l acc)[j]?=some as->∀ i ∈ as,i<j:=by
     intro l
     induction l with
     | nil=>intro acc h _;exact h
     | cons o l ih2 =>
      intro acc h h2
      refine ih2 _ ?_ ?_
      ·intro j as hj i hi
       by_cases hlt:j<acc.length
       ·rw [List.getElem?_append_left hlt] at hj
        exact h j as hj i hi
       ·rw [List.getElem?_append_right (by omega)] at hj
        have hj0:j=acc.length:=by
         cases hq:j - acc.length with
         | zero=>omega
         | succ q=>rw [hq] at hj;simp at hj
        subst hj0
        simp only [Nat.sub_self,List.getElem?_cons_zero,Option.some.injEq] at hj
        subst hj
        obtain ⟨e,hee,hi⟩:=List.mem_flatMap.1 hi
        obtain ⟨he1,he2⟩:=List.mem_filter.1 hee
        have hlt:=h2 0 o rfl e he1 he2
        rcases List.mem_cons.1 hi with rfl|hi
        ·omega
        ·cases hacc:acc[e.on]? with
         | none=>rw [hacc] at hi;simp at hi
         | some as'=>rw [hacc] at hi;have:=h e.on as' hacc i (by simpa using hi);omega
      ·intro j o' hj e hee hb
       have:=h2 (j+1) o' (by simpa using hj) e hee hb
       rw [List.length_append];simp;omega
    have:=strict ops.toList [] (by simp) (fun j o hj e hee hb=>by have:=edgesOk_spec ops.toList 0 he j o hj e hee hb;simpa using this) q as has q hqa
    omega
  have free:∀ (j:Nat) (g:Eff),fs[j]?=some g->(j<i->Lof listed j=false->touch g f=false)/\(i<j->Lof listed j=true->touch f g=false):=by
   intro j g hg
   refine ⟨fun hji hLj=>?_,fun hij hLj=>?_⟩
   ·rcases ordOk_spec _ fs 0 ho j i g f hji hg hf with h|⟨as,has,hm⟩
    ·exact h
    ·rw [Nat.zero_add] at has hm
     rw [hself as has j hm] at hLj;cases hLj
   ·rcases ordOk_spec _ fs 0 ho i j f g hij hf hg with h|⟨as,has,hm⟩
    ·exact h
    ·rw [Nat.zero_add] at has hm
     rw [hanc j as has i hm hLj] at hLi;cases hLi
  have hread:=readsAll_at fs σ 0 hra i f hf
  simp only [Nat.zero_add] at hread
  have hreads:Reads (stOn (Lof listed) σ fs) f:=by
   refine ⟨fun p hp=>?_,fun p hp=>?_⟩
   ·have:=hread.1 p hp
    rw [<-this]
    refine seqOn_congr _ _ p.1 (fs.map wT) 0 _ _ rfl fun j w hj hne=>?_
    rw [Nat.zero_add] at hne
    rw [List.getElem?_map] at hj
    cases hg:fs[j]? with
    | none=>rw [hg] at hj;cases hj
    | some g' =>
     rw [hg] at hj;cases hj
     have hfr:=free j g' hg
     by_cases hji:j<i
     ·cases hL:Lof listed j with
      | true=>rw [hL] at hne;simp [hji] at hne
      | false =>
       intro hx
       exact ((touch_spec (hfr.1 hji hL)).1 p.1 hx).1 (keys_get hp)
     ·by_cases hij:i<j
      ·cases hL:Lof listed j with
       | false=>rw [hL] at hne;simp [hji] at hne
       | true=>exact (touch_spec (hfr.2 hij hL)).2.1 p.1 (keys_get hp)
      ·have:j=i:=by omega
       subst this
       rw [hLi] at hne;simp at hne
   ·have:=hread.2 p hp
    rw [<-this]
    refine seqOn_congr _ _ p.1 (fs.map (·.wh)) 0 _ _ rfl fun j w hj hne=>?_
    rw [Nat.zero_add] at hne
    rw [List.getElem?_map] at hj
    cases hg:fs[j]? with
    | none=>rw [hg] at hj;cases hj
    | some g' =>
     rw [hg] at hj;cases hj
     have hfr:=free j g' hg
     by_cases hji:j<i
     ·cases hL:Lof listed j with
      | true=>rw [hL] at hne;simp [hji] at hne
      | false =>
       intro hx
       exact ((touch_spec (hfr.1 hji hL)).2.2.1 p.1 hx).1 (keys_get hp)
     ·by_cases hij:i<j
      ·cases hL:Lof listed j with
       | false=>rw [hL] at hne;simp [hji] at hne
       | true=>exact (touch_spec (hfr.2 hij hL)).2.2.2 p.1 (keys_get hp)
      ·have:j=i:=by omega
       subst this
       rw [hLi] at hne;simp at hne
  have hLset:Lof (listed.setIfInBounds i true)=fun q=>if q=i then true else Lof listed q:=by
   funext q
   unfold Lof
   by_cases hq:q=i
   ·subst hq;simp [Array.getD,show q<listed.size by omega]
   ·rw [if_neg hq,Array.getD_eq_getD_getElem?,Array.getD_eq_getD_getElem?,Array.getElem?_setIfInBounds_ne (fun h=>hq h.symm)]
  have hupd:(stOn (Lof listed) σ fs).upd f=stOn (Lof (listed.setIfInBounds i true)) σ fs:=by
   rw [hLset]
   simp only [SS.upd,stOn,tset_put1,hset_put1]
   congr 1
   ·funext x
    refine (seqOn_insert (Lof listed) i x hLi (fs.map wT) 0 σ.t (wT f) (Nat.zero_le _) (by simp [hf]) fun j w hj hij hL hx=>?_).symm
    rw [Nat.zero_add] at hij hL
    rw [List.getElem?_map] at hj
    cases hg:fs[j]? with
    | none=>rw [hg] at hj;cases hj
    | some g' =>
     rw [hg] at hj;cases hj
     exact ((touch_spec ((free j g' hg).2 hij hL)).1 x hx).2
   ·funext x
    refine (seqOn_insert (Lof listed) i x hLi (fs.map (·.wh)) 0 σ.h f.wh (Nat.zero_le _) (by simp [hf]) fun j w hj hij hL hx=>?_).symm
    rw [Nat.zero_add] at hij hL
    rw [List.getElem?_map] at hj
    cases hg:fs[j]? with
    | none=>rw [hg] at hj;cases hj
    | some g' =>
     rw [hg] at hj;cases hj
     exact ((touch_spec ((free j g' hg).2 hij hL)).2.2.1 x hx).2
  refine hs i f hf E _ a w _ Q g (hd f (List.mem_of_getElem? hf)) hreads hr fun a' w' hr'=>?_
  rw [hupd] at hr'
  refine ih (listed.setIfInBounds i true) a' w' (by simp [hsz]) ?_ ?_ hr'
  ·-- one less is not listed
   have hlt:((List.range ops.size).filter fun q=>!Lof (listed.setIfInBounds i true) q).length<((List.range ops.size).filter fun q=>!Lof listed q).length:=by
    rw [hLset]
    exact filter_lt (fun x hx=>by by_cases e:x=i<;>simp_all) i (by simp [hLi]) (by simp) _ (List.mem_range.2 hilt)
   omega
  ·intro j o' hj hS e hee hb
   rw [hLset] at hS ⊢
   simp only at hS ⊢
   by_cases hei:e.on=i
   ·simp [hei]
   ·rw [if_neg hei]
    by_cases hji:j=i
    ·subst hji
     rw [hio] at hj;cases hj
     exact hi2 e hee hb
    ·rw [if_neg hji] at hS
     exact hcl j o' hj hS e hee hb
theorem region_any {id:Nat} (hm:P.follows .mixedOrders=true) (g:E.good W) {a:Act} {w:World} (hl:fs.length=ops.size) (hs:StepsW P W ops fs)
 (hd:dstsOk E.N fs) (hra:ReadsAll σ fs) (he:edgesOk ops.toList 0=true) (ho:ordOk (ancs ops.toList []) fs 0=true) (hr:Rep E σ a w) (hq:∀ a' w',Rep E (runs σ fs) a' w'->Q .normal a' w') :
 (Code.region id ops true).wp P Q a w:=by
 refine wp_region_any hm ?_
 have hL0:∀ q,Lof (Array.replicate ops.size false) q=false:=fun q=>by
  unfold Lof
  rw [Array.getD_eq_getD_getElem?]
  cases h:(Array.replicate ops.size false)[q]? with
  | none=>rfl
  | some b =>
   have:=(Array.getElem?_eq_some_iff.1 h)
   obtain ⟨h1,h2⟩:=this
   simp at h2
   simp [h2]
 refine any_sound g hl hs hd hra he ho hq ops.size (Array.replicate ops.size false) a _ (by simp) ?_ (fun j o hj hS=>by rw [hL0] at hS;cases hS) ?_
 ·have:=List.length_filter_le (fun i=>!Lof (Array.replicate ops.size false) i) (List.range ops.size)
  simpa using this
 ·have hnil:∀ {X:Type} (ws:List (List (Nat×X))) (j:Nat) (g:Nat->X),seqOn (Lof (Array.replicate ops.size false)) g ws j=g:=by
   intro X ws
   induction ws with
   | nil=>intro j g;rfl
   | cons w ws ih=>intro j g;simp only [seqOn,hL0,cond_false];exact ih _ _
  have:stOn (Lof (Array.replicate ops.size false)) σ fs=σ:=by
   unfold stOn
   rw [hnil,hnil]
  rw [this]
  exact hr.drew
end
end Go.Ac

namespace Go.Ac
open Go
inductive It where
 | code (c:Code)
 | blk (id:Nat)
 | chk (R:SS->Prop)
def Kof (P:Program) (E:Env) (Q:Exit->SS->Prop):List It->Exit->SS->Prop
 | [],e,σ=>Q e σ
 | .code c::k,e,σ =>
  match e with
  | .normal=>∀ a w,Rep E σ a w->c.wp P (fun e a' w'=>∃ σ',Kof P E Q k e σ'/\Rep E σ' a' w') a w
  | e=>Kof P E Q k e σ
 | .blk id::k,e,σ =>
  match e with
  | .exit id'=>if id'=id then Kof P E Q k .normal σ else Kof P E Q k (.exit id') σ
  | e=>Kof P E Q k e σ
 | .chk R::k,e,σ =>
  match e with
  | .normal=>R σ
  | e=>Kof P E Q k e σ
def RUN (P:Program) (W:World) (N:Nat) (todo:List It) (Q:Exit->SS->Prop) (σ:SS):Prop :=
 ∀ E:Env,E.good W->E.N=N->Kof P E Q todo .normal σ
section
variable {P:Program} {W:World} {N:Nat} {Q:Exit->SS->Prop} {σ:SS} {k:List It}
theorem run_nil (h:Q .normal σ):RUN P W N [] Q σ:=fun E g hN=>h
def Sub (σ σ':SS):Prop:=∀ E a w,Rep E σ a w->Rep E σ' a w
end
def ldT (P:Program) (T:TypeId) (el:AV) (c:Nat):Option AV :=
 match P.underlying T,P.info? T with
 | some d,some i=>ldV (descAgg d) i.size el c
 | _,_=>none
def resV1 (P:Program) (σ:SS):ResultVar->Option AV
 | .tmp t=>some (σ.t t)
 | .cell a T =>
  match σ.t a with
  | .gp k c=>match σ.h k with|some (.box el _)=>ldT P T el c|_=>none
  | _=>none
def resVL (P:Program) (σ:SS):List ResultVar->Option (List AV)
 | []=>some []
 | r::l=>match resV1 P σ r,resVL P σ l with|some x,some xs=>some (x::xs)|_,_=>none
def fetch (tmps:Array Value):ResultVar->Sem Value
 | .tmp t=>pure (tmps.getD t undef)
 | .cell ad t=>do loadVar t (<-asAddr (tmps.getD ad undef))
def resV (l:List AV):AV:=match l with|[x]=>x|l=>.tup l
section
variable {P:Program} {E:Env} {σ:SS} {a:Act} {w:World} {β:Nat->Plc} {I:Nat->Prop}
theorem resV1_run (r:RepAt E σ a w β I) {q:ResultVar} {X:AV} (h:resV1 P σ q=some X) :
 ∃ v,(fetch a.tmps q).run P w=.ok v w/\R β (dom σ.h) I w.heap true X v:=by
 cases q with
 | tmp t=>simp only [resV1,Option.some.injEq] at h;subst h;exact ⟨_,rfl,r.tmps t⟩
 | cell ad T =>
  simp only [resV1] at h
  have h0:=r.tmps ad
  split at h
  case h_2=>cases h
  rename_i k c hk
  rw [hk] at h0
  split at h
  case h_2=>cases h
  rename_i el st hb
  unfold ldT at h
  split at h
  case h_2=>cases h
  rename_i d i hd hi
  obtain ⟨vs,U,g1,g2,g3,g4,_⟩:=r.inv.ge k _ hb
  generalize hv:a.tmps.getD ad undef=v at h0
  cases h0 with
  | gp dk =>
   obtain ⟨u,h1,h2⟩:=ld_run (P:=P) (w:=w) (b:=(β k).b) (p:=0) hd hi h g3 (fun j v hv=>by rw [cell_of_cells g2,Nat.zero_add];simpa using hv)
   rw [Nat.zero_add] at h1
   refine ⟨u,by simp only [fetch,hv,Sem.run_bind,asAddr,Sem.run_pure,Result.andThen_ok,h1],?_⟩
   cases hs:decide (st ≠ .frz) with
   | true=>rw [hs] at h2;exact h2
   | false=>rw [hs] at h2;exact h2.closed (fun b hb=>⟨hb,rfl⟩) rfl true
theorem resVL_run (r:RepAt E σ a w β I):∀ {l:List ResultVar} {Xs:List AV},resVL P σ l=some Xs →
 ∃ vs:List Value,(l.mapM (fetch a.tmps)).run P w=.ok vs w/\RL β (dom σ.h) I w.heap true Xs vs
 | [],_,h=>by simp only [resVL,Option.some.injEq] at h;subst h;exact ⟨[],by simp,.nil _⟩
 | q::l,Xs,h=>by
  simp only [resVL] at h
  cases h1:resV1 P σ q with
  | none=>rw [h1] at h;cases h
  | some X =>
   cases h2:resVL P σ l with
   | none=>rw [h1,h2] at h;cases h
   | some Ys =>
    rw [h1,h2] at h;cases h
    obtain ⟨v,hv,hR⟩:=resV1_run r h1
    obtain ⟨vs,hvs,hRs⟩:=resVL_run r h2
    refine ⟨v::vs,?_,.cons hR hRs⟩
    rw [List.mapM_cons]
    simp only [Sem.run_bind,hv,Result.andThen_ok,hvs,Sem.run_pure]
theorem results_run (r:RepAt E σ a w β I) {fn:Func} {Xs:List AV} (h:resVL P σ fn.results.toList=some Xs):∃ v,(results fn a.tmps).run P w=.ok v w/\R β (dom σ.h) I w.heap true (resV Xs) v:=by
 obtain ⟨vs,hvs,hR⟩:=resVL_run (P:=P) r h
 have hm:(fn.results.mapM (fetch a.tmps)).run P w=.ok vs.toArray w:=by
  rw [Array.mapM_eq_mapM_toList]
  simp only [<-bind_pure_comp,Sem.run_bind,hvs,Result.andThen_ok,Sem.run_pure]
 refine ⟨if hh:vs.toArray.size=1 then vs.toArray[0] else .tuple vs.toArray,?_,?_⟩
 ·have hfun:results fn a.tmps=(do let vs <-fn.results.mapM (fetch a.tmps);pure (if h:vs.size=1 then vs[0] else .tuple vs)):=by
   unfold results
   congr 1
  rw [hfun]
  simp only [Sem.run_bind,hm,Result.andThen_ok,Sem.run_pure]
 ·match Xs,vs,hR with
  | [],[],_=>exact .tup (.nil _)
  | [X],[v],.cons h1 _=>exact h1
  | X::Y::Xs,v::u::vs,h=>simp [resV];exact .tup h
end
end Go.Ac

namespace Go.Ac
open Go
mutual
def nms:AV->List Nat
 | .gp k _=>[k]
 | .ge k _ _=>[k]
 | .gs k _ _=>[k]
 | .agg cs=>nmsL cs
 | .tup cs=>nmsL cs
 | .fn _ xs ys=>nmsL xs++nmsL ys
 | .ifc _ x=>nms x
 | .mp k=>[k]
 | _=>[]
def nmsL:List AV->List Nat
 | []=>[]
 | a::l=>nms a++nmsL l
end
mutual
def ren (x y:Nat):AV->AV
 | .gp k c=>.gp (if k=x then y else k) c
 | .ge k i c=>.ge (if k=x then y else k) i c
 | .gs k i len=>.gs (if k=x then y else k) i len
 | .agg cs=>.agg (renL x y cs)
 | .tup cs=>.tup (renL x y cs)
 | .fn f xs ys=>.fn f (renL x y xs) (renL x y ys)
 | .ifc t a=>.ifc t (ren x y a)
 | .mp k=>.mp (if k=x then y else k)
 | .top=>.top
 | .val v=>.val v
 | .str l=>.str l
 | .sl n els rest=>.sl n els rest
 | .ip el c=>.ip el c
def renL (x y:Nat):List AV->List AV
 | []=>[]
 | a::l=>ren x y a::renL x y l
end
section
variable {β β':Nat->Plc} {D D' I:Nat->Prop} {H:Array Obj}
mutual
theorem R.dom:∀ {m a v},R β D I H m a v->(∀ n ∈ nms a,D' n)->R β D' I H m a v
 | _,_,_,.top m v,_=>.top m v
 | _,_,_,.val m v,_=>.val m v
 | _,_,_,.str m l,_=>.str m l
 | _,_,_,.agg h,e=>.agg (RL.dom h (by simpa [nms] using e))
 | _,_,_,.tup h,e=>.tup (RL.dom h (by simpa [nms] using e))
 | _,_,_,.sl vs h1 h2 h3 h4 h4' h5 h6 h7 h8 h9,_=>.sl vs h1 h2 h3 h4 h4' h5 h6 (h7.closed (fun b hb=>⟨hb,rfl⟩) rfl false) h8 h9
 | _,_,_,.sl0,_=>.sl0
 | _,_,_,.ip vs h1 h3 h4 h5 h6,_=>.ip vs h1 h3 (h4.closed (fun b hb=>⟨hb,rfl⟩) rfl false) h5 h6
 | _,_,_,.gp h,e=>.gp (e _ (by simp [nms]))
 | _,_,_,.ge h,e=>.ge (e _ (by simp [nms]))
 | _,_,_,.gs h h1 h2 h3,e=>.gs (e _ (by simp [nms])) h1 h2 h3
 | _,_,_,.fn h1 h2,e=>.fn (RL.dom h1 (fun n hn=>e n (by simp [nms,hn]))) (RL.dom h2 (fun n hn=>e n (by simp [nms,hn])))
 | _,_,_,.ifc h,e=>.ifc (R.dom h (by simpa [nms] using e))
 | _,_,_,.mp h,e=>.mp (e _ (by simp [nms]))
theorem RL.dom:∀ {m as vs},RL β D I H m as vs->(∀ n ∈ nmsL as,D' n)->RL β D' I H m as vs
 | _,_,_,.nil m,_=>.nil m
 | _,_,_,.cons h1 h2,e=>.cons (R.dom h1 (fun n hn=>e n (by simp [nmsL,hn]))) (RL.dom h2 (fun n hn=>e n (by simp [nmsL,hn])))
end
mutual
theorem R.ren {x y:Nat} (K:∀ k,D k->D' (if k=x then y else k)/\β' (if k=x then y else k)=β k):∀ {m a v},R β D I H m a v->R β' D' I H m (ren x y a) v
 | _,_,_,.top m v=>.top m v
 | _,_,_,.val m v=>.val m v
 | _,_,_,.str m l=>.str m l
 | _,_,_,.agg h=>.agg (RL.ren K h)
 | _,_,_,.tup h=>.tup (RL.ren K h)
 | _,_,_,.sl vs h1 h2 h3 h4 h4' h5 h6 h7 h8 h9=>.sl vs h1 h2 h3 h4 h4' h5 h6 (h7.closed (fun b hb=>⟨hb,rfl⟩) rfl false) h8 h9
 | _,_,_,.sl0=>.sl0
 | _,_,_,.ip vs h1 h3 h4 h5 h6=>.ip vs h1 h3 (h4.closed (fun b hb=>⟨hb,rfl⟩) rfl false) h5 h6
 | _,_,_,.gp h=>(K _ h).2 ▸ .gp (K _ h).1
 | _,_,_,.ge h=>(K _ h).2 ▸ .ge (K _ h).1
 | _,_,_,.gs h h1 h2 h3=>.gs (K _ h).1 h1 h2 (by rw [(K _ h).2];exact h3)
 | _,_,_,.fn h1 h2=>.fn (RL.ren K h1) (RL.ren K h2)
 | _,_,_,.ifc h=>.ifc (R.ren K h)
 | _,_,_,.mp h=>(K _ h).2 ▸ .mp (K _ h).1
theorem RL.ren {x y:Nat} (K:∀ k,D k->D' (if k=x then y else k)/\β' (if k=x then y else k)=β k):∀ {m as vs},RL β D I H m as vs->RL β' D' I H m (renL x y as) vs
 | _,_,_,.nil m=>.nil m
 | _,_,_,.cons h1 h2=>.cons (R.ren K h1) (RL.ren K h2)
end
end
def geNms:GE->List Nat
 | .box el _=>nms el
 | .arr _ _ els _=>nmsL els
 | .map es _=>nmsL (es.map (·.1))++nmsL (es.map (·.2))
 | .iter _ _=>[]
 | .dead=>[]
theorem nmsL_flat (a:AV):nmsL a.flat=nms a:=by
 cases a<;>simp [AV.flat,nmsL,nms]
theorem nmsL_append:∀ l k:List AV,nmsL (l++k)=nmsL l++nmsL k
 | [],_=>rfl
 | a::l,k=>by simp [nmsL,nmsL_append l k]
theorem nmsL_flats:∀ l:List AV,nmsL (flats l)=nmsL l
 | []=>rfl
 | a::l=>by simp only [flats,nmsL_append,nmsL_flat,nmsL_flats l,nmsL]
def ownGE:GE->GE
 | .arr e n els .shr=>.arr e n els .own
 | g=>g
theorem sub_own {σ:SS} (hs:∀ i g,σ.h i=some g->∀ e n els,g ≠ .arr e n els .sld):Sub σ ⟨σ.t,fun i=>(σ.h i).map ownGE⟩:=by
 rintro E a w ⟨β,I,r⟩
 have back:∀ i g,(σ.h i).map ownGE=some g->∃ g0,σ.h i=some g0/\g=ownGE g0:=fun i g hi=>by
  cases h:σ.h i with
  | none=>rw [h] at hi;cases hi
  | some g0=>rw [h] at hi;cases hi;exact ⟨g0,rfl,rfl⟩
 have K:Keep β β (dom σ.h) (dom fun i=>(σ.h i).map ownGE) I I w.heap w.heap:=⟨fun i hi=>⟨by simpa [dom] using hi,rfl⟩,fun b hb=>⟨hb,rfl⟩⟩
 have hback:∀ i g0,Backed (β i) (ownGE g0)->Backed (β i) g0:=fun i g0 h=>by
  cases g0 with
  | box el st=>trivial
  | arr e n els st=>cases st<;>exact h
  | map es st=>trivial
  | iter s p=>trivial
  | dead=>exact h
 refine ⟨β,I,fun i=>(r.tmps i).keep K,⟨fun i g hi=>?_,r.inv.imm,?_⟩,?_,r.size,r.defers⟩
 ·obtain ⟨g0,h0,rfl⟩:=back i g hi
  have h1:=(r.inv.ge i g0 h0).keep K rfl (fun _=>rfl) (fun _=>Iff.rfl)
  cases g0 with
  | box el st=>exact h1
  | arr e n els st =>
   cases st<;>try exact h1
   obtain ⟨g1,g2,g3,g4⟩:=h1
   refine ⟨g1,g2,g3,?_⟩
   rcases g4 with g4|⟨g4,vs,g5,g6,g7,g8,g9,_,g10⟩
   ·exact .inl g4
   ·exact .inr ⟨g4,vs,g5,g6,g7,g8,g9,(fun h=>by cases h),fun _=>g10 (by simp)⟩
  | map es st=>exact h1
  | iter s p=>exact h1
  | dead=>exact h1
 ·intro i i' g g' hne h1 h2 b1 b2 hb
  obtain ⟨g0,q1,rfl⟩:=back i g h1
  obtain ⟨g0',q2,rfl⟩:=back i' g' h2
  have hc:=r.inv.sep i i' g0 g0' hne q1 q2 (hback i g0 b1) (hback i' g0' b2) hb
  exfalso
  cases g0 with
  | box el st=>simp [Compat] at hc
  | map es st=>simp [Compat] at hc
  | iter s p=>simp [Compat] at hc
  | dead=>exact b1
  | arr e n els st =>
   have n1:=hs i _ q1
   cases g0' with
   | box el st=>cases st<;>simp [Compat] at hc
   | map es st=>cases st<;>simp [Compat] at hc
   | iter s p=>cases st<;>simp [Compat] at hc
   | dead=>exact b2
   | arr e' n' els' st' =>
    have n2:=hs i' _ q2
    cases st<;>cases st'<;>first|exact (n1 _ _ _ rfl).elim|exact (n2 _ _ _ rfl).elim|simp [Compat] at hc
 ·obtain ⟨f1,f2,f3,f4,f5,f6,f7,f8,f9⟩:=r.fr
  refine ⟨f1,f2,f3,f4,f5,f6,f7,fun i g hi hb hst=>?_,pin_keep K f9⟩
  obtain ⟨g0,q1,rfl⟩:=back i g hi
  refine f8 i g0 q1 (hback i g0 hb) ?_
  cases g0 with
  | box el st=>exact hst
  | map es st=>exact hst
  | iter s p=>exact hst
  | dead=>exact hst
  | arr e n els st=>cases st<;>first|exact hst|simp [GE.st]
theorem Sub.trans {a b c:SS} (h:Sub a b) (k:Sub b c):Sub a c:=fun E x w hr=>k E x w (h E x w hr)
theorem Sub.refl (a:SS):Sub a a:=fun _ _ _ h=>h
end Go.Ac

