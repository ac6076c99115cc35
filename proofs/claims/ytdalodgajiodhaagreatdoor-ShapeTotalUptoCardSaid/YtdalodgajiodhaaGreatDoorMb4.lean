/- What is proved: contracts of functions of this translation, walked; their plain meaning. No condition beyond those that each theorem names. -/
import Derived.Test.YtdalodgajiodhaaGreatDoorMa5
import Derived.Test.YtdalodgajiodhaaGreatDoorMb2
import Derived.Test.YtdalodgajiodhaaGreatDoorMb3
set_option linter.all false
namespace Go.Ac
open Go
theorem blL_strN:∀ p:List (List UInt8),∀ s ∈ p,s.length<=bl.blL (p.map AV.str)
 | []=>by simp
 | s::p=>by
  have h2:=blL_strN p
  simp only [List.map_cons,bl.blL,bl,List.mem_cons]
  intro x hx
  rcases hx with rfl|hx
  ·omega
  ·have:=h2 x hx;omega
theorem bl_names:∀ j:JV,∀ s ∈ j.names,s.length<=bl (encV j)
 | .mk h l=>by
  intro s hs
  have b2:=blL_strN h.names s hs
  have e:bl (encV (.mk h l))=h.text.length+1+(bl.blL (h.names.map AV.str)+1)+(bl.blL (encVs l)+1):=by
   simp only [encV,bl,bl.blL];omega
  omega
end Go.Ac

namespace Go.Proofs
open Go.RowKit Go.Shelf
attribute [local go_sem] Oper.semAt_some
set_option maxRecDepth 100000
set_option maxHeartbeats 1000000
structure El where
 k0:Int
 k1:Int
 s2:ByteArray
 a3:Option Addr
 l3:Nat
 p3:Nat
 a4:Option Addr
 l4:Nat
 p4:Nat
def El.cells (e:El):Array Value:=#[.int .i64 e.k0,.int .i64 e.k1,.string e.s2,.slice e.a3 e.l3 e.p3,.slice e.a4 e.l4 e.p4]
def El.agg (e:El):Value:=.agg e.cells
def El.at (e:El) (w:World) (b o:Nat):Prop :=
 w.cell? ⟨b,o,none⟩=some (.int .i64 e.k0)/\w.cell? ⟨b,o+1,none⟩=some (.int .i64 e.k1)/\w.cell? ⟨b,o+2,none⟩=some (.string e.s2)/\w.cell? ⟨b,o+3,none⟩=some (.slice e.a3 e.l3 e.p3)/\w.cell? ⟨b,o+4,none⟩=some (.slice e.a4 e.l4 e.p4)
theorem El.at_below {e:El} {w W:World} {b o n₀:Nat} (h:e.at w b o) (hB:Below n₀ w W) (hb:b<n₀):e.at W b o :=
 ⟨(hB.cell (p:=⟨b,o,none⟩) hb).trans h.1,(hB.cell (p:=⟨b,o+1,none⟩) hb).trans h.2.1,(hB.cell (p:=⟨b,o+2,none⟩) hb).trans h.2.2.1,(hB.cell (p:=⟨b,o+3,none⟩) hb).trans h.2.2.2.1,(hB.cell (p:=⟨b,o+4,none⟩) hb).trans h.2.2.2.2⟩
abbrev Ix (N:Nat):={i:Nat // i<N}
theorem Tryz.allN98_in (F:Fence) (n:Nat) (h8:F.fn 98) (hro:F.round=none) (hn:1<=n) (l Bs n₀ b off N cap:Nat) (a:Option Addr) (el:Nat->El) (hN:N<=2 ^ 60) (hb:0<N->b<n₀) (J Jx:List (Ix N)->World->Prop)
 (hY:∀ pre x W,J pre W->pre.length<N->YieldAt F (n - 1) Tryz.prog l #[.int .i64 (x.1:Nat),(el x.1).agg] W fun e W' =>
  (e=.returned (.bool true)/\J (pre++[x]) W'/\Below n₀ W W')\/(e=.returned (.bool false)/\Jx (pre++[x]) W'))
 (hJa:∀ pre W o,J pre W->Below n₀ W (W.alloc o)->J pre (W.alloc o))
 (W:World) (hn₀:n₀<=W.heap.size) (hBs:W.cell? ⟨Bs,0,none⟩=some (.slice a N cap)) (ha:0<N->a=some ⟨b,off,none⟩)
 (hE:∀ i,i<N->(el i).at W b (off+i * 5)) (h0:J [] W) :
 CallsIn F n Tryz.prog 98 #[.func (.yield l) #[] #[],.pointer (some ⟨Bs,0,none⟩)] W fun e W'=>(∃ v,e=.returned v) ∧
  ((∃ ys:List (Ix N),ys.map (·.1)=List.range N/\J ys W')\/(∃ pre,pre.length<=N/\Jx pre W')):=by
 refine callsIn_of_wp Tryz.func98 rfl h8 ?_ hro
 simp only [Tryz.ntmps98,List.size_toArray,List.length_cons,List.length_nil,Nat.reduceAdd,Nat.reduceSub,Array.replicate_succ,Array.replicate_zero,List.push_toArray,List.append_toArray,List.nil_append,List.cons_append]
 gi_wp2
 gi_loopw [7] (fun i wr=>∃ (k:Nat) (pre:List (Ix N)),k<=N/\pre.map (·.1)=List.range k/\i=.int .i64 k/\J pre wr/\Below n₀ W wr)
  (fun i _=>N - (intOf i).toNat)
 case atStart=>exact ⟨0,[],Nat.zero_le _,rfl,rfl,h0,Below.refl _ _⟩
 case round =>
  obtain ⟨k,pre,hk,hpre,rfl,hJs,hnx⟩:=hrel
  have hpl:pre.length=k:=by have:=congrArg List.length hpre;simpa using this
  by_cases hlt:k<N
  ·obtain rfl:=ha (by omega)
   obtain ⟨e0,e1,e2,e3,e4⟩:=El.at_below (hE k hlt) hnx (hb (by omega))
   obtain ⟨fn,tmps,assign,body,hy,hR⟩:=hY pre ⟨k,hlt⟩ (wr.alloc (.cells (el k).cells 25)) (hJa _ _ _ hJs ((Below.refl _ _).alloc (Nat.le_trans hn₀ hnx.size) _)) (by omega)
   dsimp only [El.agg,El.cells] at hR hy
   gi_wp2
   refine hR.mono ?_
   rintro e W3 (⟨rfl,hJ3,hk3⟩|⟨rfl,hJx3⟩)
   ·gi_wp2
    go_roundw
    case rel=>exact ⟨k+1,pre++[⟨k,hlt⟩],by omega,by rw [List.map_append,hpre,List.range_succ];rfl,by simp,hJ3,hnx.trans (((Below.refl _ _).alloc (Nat.le_trans hn₀ hnx.size) _).trans hk3)⟩
    case measure=>simp [intOf];omega
   ·gi_wp2
    refine bodyPost_ret (results_none rfl _ _ _) rfl ?_
    exact ⟨⟨_,rfl⟩,.inr ⟨pre++[⟨k,hlt⟩],by simp;omega,hJx3⟩⟩
  ·obtain rfl:k=N:=by omega
   gi_wp2
   go_end0
   exact ⟨⟨_,rfl⟩,.inl ⟨pre,hpre,hJs⟩⟩
theorem Tryz.allN98_stops (F:Fence) (n:Nat) (h8:F.fn 98) (hro:F.round=none) (hn:1<=n) (Bs n₀ b off N cap:Nat) (a:Option Addr) (el:Nat->El) (hN:N<=2 ^ 60) (hb:0<N->b<n₀)
 (w:World) (hBs:Bs<w.heap.size) (hn₀:n₀<=w.heap.size) (hc:w.cell? ⟨Bs,0,none⟩=some (.slice a N cap)) (ha:0<N->a=some ⟨b,off,none⟩) (hE:∀ i,i<N->(el i).at w b (off+i * 5)) :
 SeqStopsK F n Tryz.prog 98 #[.pointer (some ⟨Bs,0,none⟩)] (fun x:Ix N=>#[Value.int .i64 (x.1:Nat),(el x.1).agg]) (Below n₀) (fun ys=>ys.map (·.1)=List.range N) (fun pre=>pre.length<=N) N w:=fun l J Jx W hW hJ _ hY h0=>by
 have hbw:0<N->b<w.heap.size:=fun h=>Nat.lt_of_lt_of_le (hb h) hn₀
 exact Tryz.allN98_in F n h8 hro hn l Bs n₀ b off N cap a el hN hb J Jx hY
  (fun pre W o hs _=>hJ _ _ _ none hs (World.grownBy_alloc W o none) (fun r e=>by cases e)) W (Nat.le_trans hn₀ hW.size)
  ((hW.cell (p:=⟨Bs,0,none⟩) hBs).trans hc) ha (fun i hi=>El.at_below (hE i hi) hW (hbw (by omega))) h0
end Go.Proofs

namespace Go.Proofs
open Go.RowKit Go.Shelf
attribute [local go_sem] Oper.semAt_some
set_option maxRecDepth 100000
set_option maxHeartbeats 4000000
def chS {N:Nat} (lt:Nat->Nat->Bool) (m:Option (Ix N)) (x:Ix N):Option (Ix N):=match m with|none=>some x|some y=>if lt x.1 y.1=true then some x else some y
def chX {N:Nat} (lt:Nat->Nat->Bool) (pre:List (Ix N)):Option (Ix N):=pre.foldl (chS lt) none
theorem chX_snoc {N:Nat} (lt:Nat->Nat->Bool) (pre:List (Ix N)) (x:Ix N):chX lt (pre++[x])=chS lt (chX lt pre) x:=by unfold chX;rw [List.foldl_append];rfl
def idI {N:Nat} (m:Option (Ix N)):Int:=match m with|none=>0|some m=>(m.1:Nat)
def El.zero:El:=⟨0,0,⟨#[]⟩,none,0,0,none,0,0⟩
theorem boxed_below {W W1:World} {B:Nat} {t:TypeId} {v:Value} (h:Boxed W B t v) (hB:Below W.heap.size W W1):Boxed W1 B t v:=(hB.block B (Array.getElem?_eq_some_iff.1 h).1).trans h
theorem boxF_below {W W1:World} {B:Nat} {t:TypeId} {cs:Array Value} (h:BoxF W B t cs) (hB:Below W.heap.size W W1):BoxF W1 B t cs:=(hB.block B h.lt).trans h
theorem keeps_below {W W1:World} (hB:Below W.heap.size W W1):KeepsOthers W W1:=⟨hB.size,fun b o h _=>(hB.block b (Array.getElem?_eq_some_iff.1 h).1).trans h⟩
theorem stores7N {W:World} {s:Nat} {a b d0 d1 d2 d3 d4:Value} (v0 c0 c1 c2 c3 c4 v6:Value) (hA:Boxed W (s+1) 3 a) (hY:Boxed W (s+1+1) 4 b) (hB:BoxF W (s+1+1+1) 25 #[d0,d1,d2,d3,d4]) (W':World)
 (hW:W'=(((((((W.setCell ⟨s+1,0,none⟩ v0).setCell ⟨s+1+1+1,0,none⟩ c0).setCell ⟨s+1+1+1,1,none⟩ c1).setCell ⟨s+1+1+1,2,none⟩ c2).setCell ⟨s+1+1+1,3,none⟩ c3).setCell ⟨s+1+1+1,4,none⟩ c4).setCell ⟨s+1+1,0,none⟩ v6).drew) :
 KeepsOthers W W'/\(∀ n₀,n₀<=s+1->Below n₀ W W')/\Boxed W' (s+1) 3 v0/\Boxed W' (s+1+1) 4 v6/\BoxF W' (s+1+1+1) 25 #[c0,c1,c2,c3,c4]:=by
 have e1:s+1 ≠ s+1+1+1:=by omega
 have e2:s+1 ≠ s+1+1:=by omega
 have e3:s+1+1 ≠ s+1+1+1:=by omega
 have k1:=hA.set v0
 have k2:=boxedP hY ⟨s+1,0,none⟩ (Ne.symm e2) v0
 have k3:=hB.otherP ⟨s+1,0,none⟩ (Ne.symm e1) v0
 generalize hx0:W.setCell ⟨s+1,0,none⟩ v0=x0 at *
 have k1:=boxedP k1 ⟨s+1+1+1,0,none⟩ e1 c0
 have k2:=boxedP k2 ⟨s+1+1+1,0,none⟩ e3 c0
 have k3:=k3.set 0 c0
 generalize hx1:x0.setCell ⟨s+1+1+1,0,none⟩ c0=x1 at *
 have k1:=boxedP k1 ⟨s+1+1+1,1,none⟩ e1 c1
 have k2:=boxedP k2 ⟨s+1+1+1,1,none⟩ e3 c1
 have k3:=k3.set 1 c1
 generalize hx2:x1.setCell ⟨s+1+1+1,1,none⟩ c1=x2 at *
 have k1:=boxedP k1 ⟨s+1+1+1,2,none⟩ e1 c2
 have k2:=boxedP k2 ⟨s+1+1+1,2,none⟩ e3 c2
 have k3:=k3.set 2 c2
 generalize hx3:x2.setCell ⟨s+1+1+1,2,none⟩ c2=x3 at *
 have k1:=boxedP k1 ⟨s+1+1+1,3,none⟩ e1 c3
 have k2:=boxedP k2 ⟨s+1+1+1,3,none⟩ e3 c3
 have k3:=k3.set 3 c3
 generalize hx4:x3.setCell ⟨s+1+1+1,3,none⟩ c3=x4 at *
 have k1:=boxedP k1 ⟨s+1+1+1,4,none⟩ e1 c4
 have k2:=boxedP k2 ⟨s+1+1+1,4,none⟩ e3 c4
 have k3:=k3.set 4 c4
 generalize hx5:x4.setCell ⟨s+1+1+1,4,none⟩ c4=x5 at *
 have k1:=boxedP k1 ⟨s+1+1,0,none⟩ e2 v6
 have k2:=k2.set v6
 have k3:=k3.otherP ⟨s+1+1,0,none⟩ (Ne.symm e3) v6
 generalize hx6:x5.setCell ⟨s+1+1,0,none⟩ v6=x6 at *
 subst hW
 refine ⟨?_,?_,k1,k2,k3⟩
 ·subst hx0 hx1 hx2 hx3 hx4 hx5 hx6
  exact (((((((KeepsOthers.setCell W _ _).trans (KeepsOthers.setCell _ _ _)).trans (KeepsOthers.setCell _ _ _)).trans (KeepsOthers.setCell _ _ _)).trans (KeepsOthers.setCell _ _ _)).trans (KeepsOthers.setCell _ _ _)).trans (KeepsOthers.setCell _ _ _)).trans (KeepsOthers.drew _)
 ·intro n₀ hn
  subst hx0 hx1 hx2 hx3 hx4 hx5 hx6
  have q0:n₀<=s+1:=by omega
  have q1:n₀<=s+1+1:=by omega
  have q2:n₀<=s+1+1+1:=by omega
  exact ((((((((Below.refl n₀ W).setCell q0 _).setCell q2 _).setCell q2 _).setCell q2 _).setCell q2 _).setCell q2 _).setCell q1 _).drew
theorem Tryz.chosenN79_in (n:Nat) (hn:3<=n) (Bs b off N cap:Nat) (a:Option Addr) (el:Nat->El) (lt:Nat->Nat->Bool) (hN:N<=2 ^ 60)
 (w:World) (hb:0<N->b<w.heap.size) (hBs:Bs<w.heap.size) (hc:w.cell? ⟨Bs,0,none⟩=some (.slice a N cap)) (ha:0<N->a=some ⟨b,off,none⟩) (hE:∀ i,i<N->(el i).at w b (off+i * 5))
 (hcall:∀ i j,i<N->j<N->∀ W,Below w.heap.size w W->Calls Tryz.prog 79 #[(el i).agg,(el j).agg] W fun e W'=>e=.returned (.bool (lt i j))/\Below W.heap.size W W') :
 CallsIn Fence.wide n Tryz.prog 77 #[.func (.func 98) #[] #[.pointer (some ⟨Bs,0,none⟩)],.func (.func 79) #[] #[]] w fun e W' =>
  (∃ zs:List (Ix N),zs.map (·.1)=List.range N/\e=.returned (.tuple #[.int .i64 (idI (chX lt zs)),.bool (chX lt zs).isSome]))/\Below w.heap.size w W':=by
 have hro:Fence.wide.round=none:=rfl
 have h1:1<=n:=by omega
 refine callsIn_of_wp_marks Tryz.func77 rfl trivial ?_ hro
 simp only [Tryz.ntmps77,List.size_toArray,List.length_cons,List.length_nil,Nat.reduceAdd,Nat.reduceSub,Array.replicate_succ,Array.replicate_zero,List.push_toArray,List.append_toArray,List.nil_append,List.cons_append]
 gi_wp2
 have bG:=(((Boxed.new w 48 (.func (.func 79) #[] #[])).alloc (.cells #[.int .i64 0] 3)).alloc (.cells #[.bool false] 4)).alloc (.cells #[Value.int IntKind.i64 0,Value.int IntKind.i64 0,Value.string ⟨#[]⟩,Value.slice none 0 0,Value.slice none 0 0] 25)
 have bA:=((Boxed.new (w.alloc (.cells #[.func (.func 79) #[] #[]] 48)) 3 (.int .i64 0)).alloc (.cells #[.bool false] 4)).alloc (.cells #[Value.int IntKind.i64 0,Value.int IntKind.i64 0,Value.string ⟨#[]⟩,Value.slice none 0 0,Value.slice none 0 0] 25)
 have bY:=(Boxed.new ((w.alloc (.cells #[.func (.func 79) #[] #[]] 48)).alloc (.cells #[.int .i64 0] 3)) 4 (.bool false)).alloc (.cells #[Value.int IntKind.i64 0,Value.int IntKind.i64 0,Value.string ⟨#[]⟩,Value.slice none 0 0,Value.slice none 0 0] 25)
 have bB:=BoxF.new (((w.alloc (.cells #[.func (.func 79) #[] #[]] 48)).alloc (.cells #[.int .i64 0] 3)).alloc (.cells #[.bool false] 4)) 25 #[Value.int IntKind.i64 0,Value.int IntKind.i64 0,Value.string ⟨#[]⟩,Value.slice none 0 0,Value.slice none 0 0]
 simp only [World.size_alloc] at bA bY bB
 have hB0:Below w.heap.size w ((((w.alloc (.cells #[.func (.func 79) #[] #[]] 48)).alloc (.cells #[.int .i64 0] 3)).alloc (.cells #[.bool false] 4)).alloc (.cells #[Value.int IntKind.i64 0,Value.int IntKind.i64 0,Value.string ⟨#[]⟩,Value.slice none 0 0,Value.slice none 0 0] 25)) :=
  ((((Below.refl _ w).alloc (Nat.le_refl _) _).alloc (by simp) _).alloc (by simp;omega) _).alloc (by simp;omega) _
 have hsz:((((w.alloc (.cells #[.func (.func 79) #[] #[]] 48)).alloc (.cells #[.int .i64 0] 3)).alloc (.cells #[.bool false] 4)).alloc (.cells #[Value.int IntKind.i64 0,Value.int IntKind.i64 0,Value.string ⟨#[]⟩,Value.slice none 0 0,Value.slice none 0 0] 25)).heap.size=w.heap.size+4:=by simp
 obtain ⟨W0,hW0⟩:∃ W0,((((w.alloc (.cells #[.func (.func 79) #[] #[]] 48)).alloc (.cells #[.int .i64 0] 3)).alloc (.cells #[.bool false] 4)).alloc (.cells #[Value.int IntKind.i64 0,Value.int IntKind.i64 0,Value.string ⟨#[]⟩,Value.slice none 0 0,Value.slice none 0 0] 25))=W0:=⟨_,rfl⟩
 rw [hW0] at bG bA bY bB hB0 hsz ⊢
 clear hW0
 refine wpIn_rangeFunc_ownH hro h1 (gf:=98) (lb:=#[.pointer (some ⟨Bs,0,none⟩)]) rfl trivial (enters_of Tryz.func98 (by kernel_rfl) rfl)
  (Tryz.allN98_stops Fence.wide (n - 1) trivial hro (by omega) Bs w.heap.size b off N cap a el hN hb W0 (by omega) (by omega) ((hB0.cell (p:=⟨Bs,0,none⟩) hBs).trans hc) ha (fun i hi=>El.at_below (hE i hi) hB0 (hb (by omega))))
  belowK_t (belowK_b (by omega)) (Below.refl _ _) (fun _=>rfl)
  (fun pre W=>((Boxed W (w.heap.size+1) 3 (.int .i64 (idI (chX lt pre)))/\Boxed W (w.heap.size+1+1) 4 (.bool (chX lt pre).isSome))/\(∃ cs,BoxF W (w.heap.size+1+1+1) 25 cs/\∃ e:El,cs=e.cells/\∀ m,chX lt pre=some m->e=el m.1))/\(Boxed W w.heap.size 48 (.func (.func 79) #[] #[])/\Below w.heap.size w W))
  (fun _ _ _=>False)
  (OwnFrom.and (OwnFrom.and (OwnFrom.and (Own.from (boxed_own _ _ _) _) (Own.from (boxed_own _ _ _) _)) (Own.from (boxE_own _ _ _) _)) (OwnFrom.and (Own.from (boxed_own _ _ _) _) (ownFrom_below (Nat.le_refl _) (by omega))))
  (fun _ _ _ _ _ hs _ _=>hs)
  ⟨⟨⟨bA,bY⟩,⟨_,bB,El.zero,rfl,fun m h=>by cases h⟩⟩,bG,hB0⟩
  (fun x a' W=>∃ Bx,w.heap.size+1+1+1<Bx/\BoxF W Bx 25 (el x.1).cells/\a'={tmps:=#[.func (.func 98) #[] #[.pointer (some ⟨Bs,0,none⟩)],.func (.func 79) #[] #[],undef,.pointer (some ⟨w.heap.size,0,none⟩),.int .i64 0,.bool false,.pointer (some ⟨w.heap.size+1,0,none⟩),.pointer (some ⟨w.heap.size+1+1,0,none⟩),.pointer (some ⟨w.heap.size+1+1+1,0,none⟩),.int .i64 (x.1:Nat),.pointer (some ⟨Bx,0,none⟩),.func (.func 98) #[] #[.pointer (some ⟨Bs,0,none⟩)],.int .i64 (x.1:Nat),(el x.1).agg,undef,undef,undef,undef,undef,undef,undef,undef,undef,undef,undef,undef],defers:=[]})
  (fun x a' _ X Y row hs hg hr=>by obtain ⟨Bx,h1,h2,h3⟩:=hs;exact ⟨Bx,h1,boxF_own Bx 25 (fun (_:Unit)=>(el x.1).cells) () X Y row h2 hg (fun r e=>(hr r e).2),h3⟩)
  ?assign ?body ?done ?stop
 case assign =>
  rintro l pre x W K ⟨⟨⟨bA1,bY1⟩,⟨cs,bB1,bB2⟩⟩,bG1,hB1⟩ hK
  dsimp only [El.agg,El.cells] at hK ⊢
  gi_wp2
  exact hK _ _ ((KeepsOthers.alloc _ _).from _) ((Below.refl _ W).alloc (Nat.le_trans (by omega) hB1.size) _) ⟨⟨⟨bA1.alloc _,bY1.alloc _⟩,⟨cs,bB1.alloc _,bB2⟩⟩,bG1.alloc _,hB1.alloc hB1.size _⟩ ⟨W.heap.size,bB1.lt,BoxF.new W 25 _,rfl⟩
 case body =>
  rintro l pre x a' W hl ⟨r,hr⟩ ⟨⟨⟨bA1,bY1⟩,⟨cs,bB1,e0,rfl,hm0⟩⟩,bG1,hB1⟩ ⟨Bx,hBx,bX,rfl⟩ hlt
  have hd:1<=n - 1 - 1:=by omega
  have cA:=bA1.cell
  have fA:=bA1.frozen
  have cY:=bY1.cell
  have fY:=bY1.frozen
  have cG:=bG1.cell
  have hxa:(el x.1).agg=.agg #[.int .i64 (el x.1).k0,.int .i64 (el x.1).k1,.string (el x.1).s2,.slice (el x.1).a3 (el x.1).l3 (el x.1).p3,.slice (el x.1).a4 (el x.1).l4 (el x.1).p4]:=rfl
  rw [hxa]
  obtain ⟨x0,x1,x2,x3,x4⟩:=BoxF.cells (c0:=.int .i64 (el x.1).k0) bX
  obtain ⟨y0,y1,y2,y3,y4⟩:=BoxF.cells (c0:=.int .i64 e0.k0) bB1
  obtain ⟨f0,f1,f2,f3,f4⟩:=BoxF.frozen (c0:=.int .i64 e0.k0) bB1
  have hsn:=chX_snoc lt pre x
  cases hm:chX lt pre with
  | none =>
   rw [hm] at hsn
   simp only [hm,Option.isSome_none] at cY
   gi_wp2
   all_goals (refine ⟨fun _ h=>(by cases h),?_⟩)
   all_goals gi_wp2
   gi_region
   all_goals gi_wp2
   all_goals (
    obtain ⟨p1,p2,p3,p4,p5⟩:=stores7N (.int .i64 (x.1:Nat)) (.int .i64 (el x.1).k0) (.int .i64 (el x.1).k1) (.string (el x.1).s2) (.slice (el x.1).a3 (el x.1).l3 (el x.1).p3) (.slice (el x.1).a4 (el x.1).l4 (el x.1).p4) (.bool true) bA1 bY1 bB1 _ rfl
    have q2:=p2 w.heap.size (by omega)
    refine ⟨p1.from _,q2,⟨⟨?_,?_⟩,⟨_,p5,el x.1,rfl,fun m h=>?_⟩⟩,?_,hB1.trans q2⟩
    ·rw [hsn];exact p3
    ·rw [hsn];exact p4
    ·rw [hsn] at h;cases h;rfl
    ·exact ((p2 (w.heap.size+1) (Nat.le_refl _)).block _ (by omega)).trans bG1)
  | some m =>
   rw [hm] at hsn
   obtain rfl:=hm0 m hm
   have hma:(el m.1).agg=.agg #[.int .i64 (el m.1).k0,.int .i64 (el m.1).k1,.string (el m.1).s2,.slice (el m.1).a3 (el m.1).l3 (el m.1).p3,.slice (el m.1).a4 (el m.1).l4 (el m.1).p4]:=rfl
   have hcl:=hcall x.1 m.1 x.2 m.2 W hB1
   rw [hxa,hma] at hcl
   simp only [hm,Option.isSome_some] at cY
   gi_wp2
   refine ⟨trivial,(CallsIn.inRound l (callsIn_wide.2 hcl)).mono ?_⟩
   rintro e W1 ⟨rfl,hBW⟩
   have bA2:=boxed_below bA1 hBW
   have bY2:=boxed_below bY1 hBW
   have bB2:=boxF_below bB1 hBW
   have bG2:=boxed_below bG1 hBW
   have bX2:=boxF_below bX hBW
   have hK:=keeps_below hBW
   have hsW:=hB1.size
   have hBw:Below w.heap.size w W1:=hB1.trans (hBW.mono (by omega))
   clear cA fA cY fY cG x0 x1 x2 x3 x4 y0 y1 y2 y3 y4 f0 f1 f2 f3 f4
   have cA:=bA2.cell
   have fA:=bA2.frozen
   have cY:=bY2.cell
   have fY:=bY2.frozen
   obtain ⟨x0,x1,x2,x3,x4⟩:=BoxF.cells (c0:=.int .i64 (el x.1).k0) bX2
   obtain ⟨y0,y1,y2,y3,y4⟩:=BoxF.cells (c0:=.int .i64 (el m.1).k0) bB2
   obtain ⟨f0,f1,f2,f3,f4⟩:=BoxF.frozen (c0:=.int .i64 (el m.1).k0) bB2
   cases hlt2:lt x.1 m.1 with
   | true =>
    have hs2:chS lt (some m) x=some x:=by unfold chS;exact if_pos hlt2
    rw [hs2] at hsn
    gi_wp2
    gi_region
    all_goals gi_wp2
    all_goals (
     obtain ⟨p1,p2,p3,p4,p5⟩:=stores7N (.int .i64 (x.1:Nat)) (.int .i64 (el x.1).k0) (.int .i64 (el x.1).k1) (.string (el x.1).s2) (.slice (el x.1).a3 (el x.1).l3 (el x.1).p3) (.slice (el x.1).a4 (el x.1).l4 (el x.1).p4) (.bool true) bA2 bY2 bB2 _ rfl
     have q2:=p2 w.heap.size (by omega)
     refine ⟨(hK.trans p1).from _,(hBW.mono (by omega)).trans q2,⟨⟨?_,?_⟩,⟨_,p5,el x.1,rfl,fun m h=>?_⟩⟩,?_,hBw.trans q2⟩
     ·rw [hsn];exact p3
     ·rw [hsn];exact p4
     ·rw [hsn] at h;cases h;rfl
     ·exact ((p2 (w.heap.size+1) (Nat.le_refl _)).block _ (by omega)).trans bG2)
   | false =>
    have hs2:chS lt (some m) x=some m:=by unfold chS;exact if_neg (by rw [hlt2];simp)
    rw [hs2] at hsn
    gi_wp2
    refine ⟨hK.from _,hBW.mono (by omega),⟨⟨?_,?_⟩,⟨_,bB2,el m.1,rfl,fun m h=>?_⟩⟩,bG2,hBw⟩
    ·rw [hsn,<-hm];exact bA2
    ·rw [hsn,<-hm];exact bY2
    ·rw [hsn] at h;cases h;rfl
 case done =>
  rintro D zs W hD hS ⟨⟨⟨bA1,bY1⟩,_⟩,_,hB1⟩ hK
  have cA:=bA1.cell
  have cY:=bY1.cell
  gi_wp2
  gi_region
  all_goals gi_wp2
  all_goals (
   have hKd:W.drew.heap[D]?=some (.deferred (some [])):=hK
   refine ⟨by simp,.inl ⟨_,_,rfl,run_takeDeferred hKd,?_⟩⟩
   refine ⟨.tuple #[.int .i64 (idI (chX lt zs)),.bool (chX lt zs).isSome],?_,⟨zs,hS,rfl⟩,hB1.drew.trans (belowK_b (w:=w) (Nat.le_refl _) W.drew D _ _ (by omega) hKd rfl rfl)⟩
   simp [results,Tryz.f77,go_sem])
 case stop =>
  rintro D c pre W _ _ h _
  exact h.elim
theorem Tryz.chosenN80_in (n:Nat) (hn:3<=n) (Bs b off N cap:Nat) (a:Option Addr) (el:Nat->El) (lt:Nat->Nat->Bool) (hN:N<=2 ^ 60)
 (w:World) (hb:0<N->b<w.heap.size) (hBs:Bs<w.heap.size) (hc:w.cell? ⟨Bs,0,none⟩=some (.slice a N cap)) (ha:0<N->a=some ⟨b,off,none⟩) (hE:∀ i,i<N->(el i).at w b (off+i * 5))
 (hcall:∀ i j,i<N->j<N->∀ W,Below w.heap.size w W->Calls Tryz.prog 80 #[(el i).agg,(el j).agg] W fun e W'=>e=.returned (.bool (lt i j))/\Below W.heap.size W W') :
 CallsIn Fence.wide n Tryz.prog 77 #[.func (.func 98) #[] #[.pointer (some ⟨Bs,0,none⟩)],.func (.func 80) #[] #[]] w fun e W' =>
  (∃ zs:List (Ix N),zs.map (·.1)=List.range N/\e=.returned (.tuple #[.int .i64 (idI (chX lt zs)),.bool (chX lt zs).isSome]))/\Below w.heap.size w W':=by
 have hro:Fence.wide.round=none:=rfl
 have h1:1<=n:=by omega
 refine callsIn_of_wp_marks Tryz.func77 rfl trivial ?_ hro
 simp only [Tryz.ntmps77,List.size_toArray,List.length_cons,List.length_nil,Nat.reduceAdd,Nat.reduceSub,Array.replicate_succ,Array.replicate_zero,List.push_toArray,List.append_toArray,List.nil_append,List.cons_append]
 gi_wp2
 have bG:=(((Boxed.new w 48 (.func (.func 80) #[] #[])).alloc (.cells #[.int .i64 0] 3)).alloc (.cells #[.bool false] 4)).alloc (.cells #[Value.int IntKind.i64 0,Value.int IntKind.i64 0,Value.string ⟨#[]⟩,Value.slice none 0 0,Value.slice none 0 0] 25)
 have bA:=((Boxed.new (w.alloc (.cells #[.func (.func 80) #[] #[]] 48)) 3 (.int .i64 0)).alloc (.cells #[.bool false] 4)).alloc (.cells #[Value.int IntKind.i64 0,Value.int IntKind.i64 0,Value.string ⟨#[]⟩,Value.slice none 0 0,Value.slice none 0 0] 25)
 have bY:=(Boxed.new ((w.alloc (.cells #[.func (.func 80) #[] #[]] 48)).alloc (.cells #[.int .i64 0] 3)) 4 (.bool false)).alloc (.cells #[Value.int IntKind.i64 0,Value.int IntKind.i64 0,Value.string ⟨#[]⟩,Value.slice none 0 0,Value.slice none 0 0] 25)
 have bB:=BoxF.new (((w.alloc (.cells #[.func (.func 80) #[] #[]] 48)).alloc (.cells #[.int .i64 0] 3)).alloc (.cells #[.bool false] 4)) 25 #[Value.int IntKind.i64 0,Value.int IntKind.i64 0,Value.string ⟨#[]⟩,Value.slice none 0 0,Value.slice none 0 0]
 simp only [World.size_alloc] at bA bY bB
 have hB0:Below w.heap.size w ((((w.alloc (.cells #[.func (.func 80) #[] #[]] 48)).alloc (.cells #[.int .i64 0] 3)).alloc (.cells #[.bool false] 4)).alloc (.cells #[Value.int IntKind.i64 0,Value.int IntKind.i64 0,Value.string ⟨#[]⟩,Value.slice none 0 0,Value.slice none 0 0] 25)) :=
  ((((Below.refl _ w).alloc (Nat.le_refl _) _).alloc (by simp) _).alloc (by simp;omega) _).alloc (by simp;omega) _
 have hsz:((((w.alloc (.cells #[.func (.func 80) #[] #[]] 48)).alloc (.cells #[.int .i64 0] 3)).alloc (.cells #[.bool false] 4)).alloc (.cells #[Value.int IntKind.i64 0,Value.int IntKind.i64 0,Value.string ⟨#[]⟩,Value.slice none 0 0,Value.slice none 0 0] 25)).heap.size=w.heap.size+4:=by simp
 obtain ⟨W0,hW0⟩:∃ W0,((((w.alloc (.cells #[.func (.func 80) #[] #[]] 48)).alloc (.cells #[.int .i64 0] 3)).alloc (.cells #[.bool false] 4)).alloc (.cells #[Value.int IntKind.i64 0,Value.int IntKind.i64 0,Value.string ⟨#[]⟩,Value.slice none 0 0,Value.slice none 0 0] 25))=W0:=⟨_,rfl⟩
 rw [hW0] at bG bA bY bB hB0 hsz ⊢
 clear hW0
 refine wpIn_rangeFunc_ownH hro h1 (gf:=98) (lb:=#[.pointer (some ⟨Bs,0,none⟩)]) rfl trivial (enters_of Tryz.func98 (by kernel_rfl) rfl)
  (Tryz.allN98_stops Fence.wide (n - 1) trivial hro (by omega) Bs w.heap.size b off N cap a el hN hb W0 (by omega) (by omega) ((hB0.cell (p:=⟨Bs,0,none⟩) hBs).trans hc) ha (fun i hi=>El.at_below (hE i hi) hB0 (hb (by omega))))
  belowK_t (belowK_b (by omega)) (Below.refl _ _) (fun _=>rfl)
  (fun pre W=>((Boxed W (w.heap.size+1) 3 (.int .i64 (idI (chX lt pre)))/\Boxed W (w.heap.size+1+1) 4 (.bool (chX lt pre).isSome))/\(∃ cs,BoxF W (w.heap.size+1+1+1) 25 cs/\∃ e:El,cs=e.cells/\∀ m,chX lt pre=some m->e=el m.1))/\(Boxed W w.heap.size 48 (.func (.func 80) #[] #[])/\Below w.heap.size w W))
  (fun _ _ _=>False)
  (OwnFrom.and (OwnFrom.and (OwnFrom.and (Own.from (boxed_own _ _ _) _) (Own.from (boxed_own _ _ _) _)) (Own.from (boxE_own _ _ _) _)) (OwnFrom.and (Own.from (boxed_own _ _ _) _) (ownFrom_below (Nat.le_refl _) (by omega))))
  (fun _ _ _ _ _ hs _ _=>hs)
  ⟨⟨⟨bA,bY⟩,⟨_,bB,El.zero,rfl,fun m h=>by cases h⟩⟩,bG,hB0⟩
  (fun x a' W=>∃ Bx,w.heap.size+1+1+1<Bx/\BoxF W Bx 25 (el x.1).cells/\a'={tmps:=#[.func (.func 98) #[] #[.pointer (some ⟨Bs,0,none⟩)],.func (.func 80) #[] #[],undef,.pointer (some ⟨w.heap.size,0,none⟩),.int .i64 0,.bool false,.pointer (some ⟨w.heap.size+1,0,none⟩),.pointer (some ⟨w.heap.size+1+1,0,none⟩),.pointer (some ⟨w.heap.size+1+1+1,0,none⟩),.int .i64 (x.1:Nat),.pointer (some ⟨Bx,0,none⟩),.func (.func 98) #[] #[.pointer (some ⟨Bs,0,none⟩)],.int .i64 (x.1:Nat),(el x.1).agg,undef,undef,undef,undef,undef,undef,undef,undef,undef,undef,undef,undef],defers:=[]})
  (fun x a' _ X Y row hs hg hr=>by obtain ⟨Bx,h1,h2,h3⟩:=hs;exact ⟨Bx,h1,boxF_own Bx 25 (fun (_:Unit)=>(el x.1).cells) () X Y row h2 hg (fun r e=>(hr r e).2),h3⟩)
  ?assign ?body ?done ?stop
 case assign =>
  rintro l pre x W K ⟨⟨⟨bA1,bY1⟩,⟨cs,bB1,bB2⟩⟩,bG1,hB1⟩ hK
  dsimp only [El.agg,El.cells] at hK ⊢
  gi_wp2
  exact hK _ _ ((KeepsOthers.alloc _ _).from _) ((Below.refl _ W).alloc (Nat.le_trans (by omega) hB1.size) _) ⟨⟨⟨bA1.alloc _,bY1.alloc _⟩,⟨cs,bB1.alloc _,bB2⟩⟩,bG1.alloc _,hB1.alloc hB1.size _⟩ ⟨W.heap.size,bB1.lt,BoxF.new W 25 _,rfl⟩
 case body =>
  rintro l pre x a' W hl ⟨r,hr⟩ ⟨⟨⟨bA1,bY1⟩,⟨cs,bB1,e0,rfl,hm0⟩⟩,bG1,hB1⟩ ⟨Bx,hBx,bX,rfl⟩ hlt
  have hd:1<=n - 1 - 1:=by omega
  have cA:=bA1.cell
  have fA:=bA1.frozen
  have cY:=bY1.cell
  have fY:=bY1.frozen
  have cG:=bG1.cell
  have hxa:(el x.1).agg=.agg #[.int .i64 (el x.1).k0,.int .i64 (el x.1).k1,.string (el x.1).s2,.slice (el x.1).a3 (el x.1).l3 (el x.1).p3,.slice (el x.1).a4 (el x.1).l4 (el x.1).p4]:=rfl
  rw [hxa]
  obtain ⟨x0,x1,x2,x3,x4⟩:=BoxF.cells (c0:=.int .i64 (el x.1).k0) bX
  obtain ⟨y0,y1,y2,y3,y4⟩:=BoxF.cells (c0:=.int .i64 e0.k0) bB1
  obtain ⟨f0,f1,f2,f3,f4⟩:=BoxF.frozen (c0:=.int .i64 e0.k0) bB1
  have hsn:=chX_snoc lt pre x
  cases hm:chX lt pre with
  | none =>
   rw [hm] at hsn
   simp only [hm,Option.isSome_none] at cY
   gi_wp2
   all_goals (refine ⟨fun _ h=>(by cases h),?_⟩)
   all_goals gi_wp2
   gi_region
   all_goals gi_wp2
   all_goals (
    obtain ⟨p1,p2,p3,p4,p5⟩:=stores7N (.int .i64 (x.1:Nat)) (.int .i64 (el x.1).k0) (.int .i64 (el x.1).k1) (.string (el x.1).s2) (.slice (el x.1).a3 (el x.1).l3 (el x.1).p3) (.slice (el x.1).a4 (el x.1).l4 (el x.1).p4) (.bool true) bA1 bY1 bB1 _ rfl
    have q2:=p2 w.heap.size (by omega)
    refine ⟨p1.from _,q2,⟨⟨?_,?_⟩,⟨_,p5,el x.1,rfl,fun m h=>?_⟩⟩,?_,hB1.trans q2⟩
    ·rw [hsn];exact p3
    ·rw [hsn];exact p4
    ·rw [hsn] at h;cases h;rfl
    ·exact ((p2 (w.heap.size+1) (Nat.le_refl _)).block _ (by omega)).trans bG1)
  | some m =>
   rw [hm] at hsn
   obtain rfl:=hm0 m hm
   have hma:(el m.1).agg=.agg #[.int .i64 (el m.1).k0,.int .i64 (el m.1).k1,.string (el m.1).s2,.slice (el m.1).a3 (el m.1).l3 (el m.1).p3,.slice (el m.1).a4 (el m.1).l4 (el m.1).p4]:=rfl
   have hcl:=hcall x.1 m.1 x.2 m.2 W hB1
   rw [hxa,hma] at hcl
   simp only [hm,Option.isSome_some] at cY
   gi_wp2
   refine ⟨trivial,(CallsIn.inRound l (callsIn_wide.2 hcl)).mono ?_⟩
   rintro e W1 ⟨rfl,hBW⟩
   have bA2:=boxed_below bA1 hBW
   have bY2:=boxed_below bY1 hBW
   have bB2:=boxF_below bB1 hBW
   have bG2:=boxed_below bG1 hBW
   have bX2:=boxF_below bX hBW
   have hK:=keeps_below hBW
   have hsW:=hB1.size
   have hBw:Below w.heap.size w W1:=hB1.trans (hBW.mono (by omega))
   clear cA fA cY fY cG x0 x1 x2 x3 x4 y0 y1 y2 y3 y4 f0 f1 f2 f3 f4
   have cA:=bA2.cell
   have fA:=bA2.frozen
   have cY:=bY2.cell
   have fY:=bY2.frozen
   obtain ⟨x0,x1,x2,x3,x4⟩:=BoxF.cells (c0:=.int .i64 (el x.1).k0) bX2
   obtain ⟨y0,y1,y2,y3,y4⟩:=BoxF.cells (c0:=.int .i64 (el m.1).k0) bB2
   obtain ⟨f0,f1,f2,f3,f4⟩:=BoxF.frozen (c0:=.int .i64 (el m.1).k0) bB2
   cases hlt2:lt x.1 m.1 with
   | true =>
    have hs2:chS lt (some m) x=some x:=by unfold chS;exact if_pos hlt2
    rw [hs2] at hsn
    gi_wp2
    gi_region
    all_goals gi_wp2
    all_goals (
     obtain ⟨p1,p2,p3,p4,p5⟩:=stores7N (.int .i64 (x.1:Nat)) (.int .i64 (el x.1).k0) (.int .i64 (el x.1).k1) (.string (el x.1).s2) (.slice (el x.1).a3 (el x.1).l3 (el x.1).p3) (.slice (el x.1).a4 (el x.1).l4 (el x.1).p4) (.bool true) bA2 bY2 bB2 _ rfl
     have q2:=p2 w.heap.size (by omega)
     refine ⟨(hK.trans p1).from _,(hBW.mono (by omega)).trans q2,⟨⟨?_,?_⟩,⟨_,p5,el x.1,rfl,fun m h=>?_⟩⟩,?_,hBw.trans q2⟩
     ·rw [hsn];exact p3
     ·rw [hsn];exact p4
     ·rw [hsn] at h;cases h;rfl
     ·exact ((p2 (w.heap.size+1) (Nat.le_refl _)).block _ (by omega)).trans bG2)
   | false =>
    have hs2:chS lt (some m) x=some m:=by unfold chS;exact if_neg (by rw [hlt2];simp)
    rw [hs2] at hsn
    gi_wp2
    refine ⟨hK.from _,hBW.mono (by omega),⟨⟨?_,?_⟩,⟨_,bB2,el m.1,rfl,fun m h=>?_⟩⟩,bG2,hBw⟩
    ·rw [hsn,<-hm];exact bA2
    ·rw [hsn,<-hm];exact bY2
    ·rw [hsn] at h;cases h;rfl
 case done =>
  rintro D zs W hD hS ⟨⟨⟨bA1,bY1⟩,_⟩,_,hB1⟩ hK
  have cA:=bA1.cell
  have cY:=bY1.cell
  gi_wp2
  gi_region
  all_goals gi_wp2
  all_goals (
   have hKd:W.drew.heap[D]?=some (.deferred (some [])):=hK
   refine ⟨by simp,.inl ⟨_,_,rfl,run_takeDeferred hKd,?_⟩⟩
   refine ⟨.tuple #[.int .i64 (idI (chX lt zs)),.bool (chX lt zs).isSome],?_,⟨zs,hS,rfl⟩,hB1.drew.trans (belowK_b (w:=w) (Nat.le_refl _) W.drew D _ _ (by omega) hKd rfl rfl)⟩
   simp [results,Tryz.f77,go_sem])
 case stop =>
  rintro D c pre W _ _ h _
  exact h.elim
end Go.Proofs

namespace Go.Proofs
open Go.RowKit Go.Shelf
attribute [local go_sem] Oper.semAt_some
set_option maxRecDepth 100000
set_option maxHeartbeats 1000000
theorem Tryz.leastN46_in (n:Nat) (hn:4<=n) (b off N cap:Nat) (a:Option Addr) (el:Nat->El) (lt:Nat->Nat->Bool) (hN:N<=2 ^ 60)
 (w:World) (hb:0<N->b<w.heap.size) (ha:0<N->a=some ⟨b,off,none⟩) (hE:∀ i,i<N->(el i).at w b (off+i * 5))
 (hcall:∀ i j,i<N->j<N->∀ W,Below w.heap.size w W->Calls Tryz.prog 79 #[(el i).agg,(el j).agg] W fun e W'=>e=.returned (.bool (lt i j))/\Below W.heap.size W W') :
 CallsIn Fence.wide n Tryz.prog 46 #[.slice a N cap] w fun e W' =>
  (∃ zs:List (Ix N),zs.map (·.1)=List.range N/\e=.returned (.tuple #[.int .i64 (idI (chX lt zs)),.bool (chX lt zs).isSome]))/\Below w.heap.size w W':=by
 have hro:Fence.wide.round=none:=rfl
 have h1:1<=n:=by omega
 have hB0:Below w.heap.size w (w.alloc (.cells #[.slice a N cap] 23)):=(Below.refl _ w).alloc (Nat.le_refl _) _
 have hsz:(w.alloc (.cells #[.slice a N cap] 23)).heap.size=w.heap.size+1:=by simp
 have hcb:(w.alloc (.cells #[.slice a N cap] 23)).cell? ⟨w.heap.size,0,none⟩=some (.slice a N cap):=(Boxed.new w 23 (.slice a N cap)).cell
 have hh:=Tryz.chosenN79_in (n - 1) (by omega) w.heap.size b off N cap a el lt hN (w.alloc (.cells #[.slice a N cap] 23)) (fun h=>by have:=hb h;omega) (by omega) hcb ha (fun i hi=>El.at_below (hE i hi) hB0 (hb (by omega)))
  (fun i j hi hj W hW=>hcall i j hi hj W (hB0.trans (hW.mono (by omega))))
 refine callsIn_of_wp Tryz.func46 rfl trivial ?_ hro
 simp only [Tryz.ntmps46,List.size_toArray,List.length_cons,List.length_nil,Nat.reduceAdd,Nat.reduceSub,Array.replicate_succ,Array.replicate_zero,List.push_toArray,List.append_toArray,List.nil_append,List.cons_append]
 gi_wp2
 refine ⟨trivial,(Tryz.all78_in Fence.wide (n - 1) trivial hro _ _ _ _).mono ?_⟩
 rintro e w' ⟨rfl,rfl⟩
 gi_wp2
 refine ⟨trivial,hh.mono ?_⟩
 rintro e w' ⟨⟨zs,hz,rfl⟩,hB⟩
 gi_wp2
 refine bodyPost_ret (v:=.tuple #[.int .i64 (idI (chX lt zs)),.bool (chX lt zs).isSome]) (by simp [results,Tryz.f46,go_sem]) rfl ?_
 exact ⟨⟨zs,hz,rfl⟩,hB0.trans (hB.mono (by omega))⟩
theorem Tryz.greatestN47_in (n:Nat) (hn:4<=n) (b off N cap:Nat) (a:Option Addr) (el:Nat->El) (lt:Nat->Nat->Bool) (hN:N<=2 ^ 60)
 (w:World) (hb:0<N->b<w.heap.size) (ha:0<N->a=some ⟨b,off,none⟩) (hE:∀ i,i<N->(el i).at w b (off+i * 5))
 (hcall:∀ i j,i<N->j<N->∀ W,Below w.heap.size w W->Calls Tryz.prog 80 #[(el i).agg,(el j).agg] W fun e W'=>e=.returned (.bool (lt i j))/\Below W.heap.size W W') :
 CallsIn Fence.wide n Tryz.prog 47 #[.slice a N cap] w fun e W' =>
  (∃ zs:List (Ix N),zs.map (·.1)=List.range N/\e=.returned (.tuple #[.int .i64 (idI (chX lt zs)),.bool (chX lt zs).isSome]))/\Below w.heap.size w W':=by
 have hro:Fence.wide.round=none:=rfl
 have h1:1<=n:=by omega
 have hB0:Below w.heap.size w (w.alloc (.cells #[.slice a N cap] 23)):=(Below.refl _ w).alloc (Nat.le_refl _) _
 have hsz:(w.alloc (.cells #[.slice a N cap] 23)).heap.size=w.heap.size+1:=by simp
 have hcb:(w.alloc (.cells #[.slice a N cap] 23)).cell? ⟨w.heap.size,0,none⟩=some (.slice a N cap):=(Boxed.new w 23 (.slice a N cap)).cell
 have hh:=Tryz.chosenN80_in (n - 1) (by omega) w.heap.size b off N cap a el lt hN (w.alloc (.cells #[.slice a N cap] 23)) (fun h=>by have:=hb h;omega) (by omega) hcb ha (fun i hi=>El.at_below (hE i hi) hB0 (hb (by omega)))
  (fun i j hi hj W hW=>hcall i j hi hj W (hB0.trans (hW.mono (by omega))))
 refine callsIn_of_wp Tryz.func47 rfl trivial ?_ hro
 simp only [Tryz.ntmps47,List.size_toArray,List.length_cons,List.length_nil,Nat.reduceAdd,Nat.reduceSub,Array.replicate_succ,Array.replicate_zero,List.push_toArray,List.append_toArray,List.nil_append,List.cons_append]
 gi_wp2
 refine ⟨trivial,(Tryz.all78_in Fence.wide (n - 1) trivial hro _ _ _ _).mono ?_⟩
 rintro e w' ⟨rfl,rfl⟩
 gi_wp2
 refine ⟨trivial,hh.mono ?_⟩
 rintro e w' ⟨⟨zs,hz,rfl⟩,hB⟩
 gi_wp2
 refine bodyPost_ret (v:=.tuple #[.int .i64 (idI (chX lt zs)),.bool (chX lt zs).isSome]) (by simp [results,Tryz.f47,go_sem]) rfl ?_
 exact ⟨⟨zs,hz,rfl⟩,hB0.trans (hB.mono (by omega))⟩
end Go.Proofs

namespace Go.Ac
open Go Go.Proofs Go.RowKit
set_option maxRecDepth 10000
set_option maxHeartbeats 1000000
namespace Dd
theorem p79_0 (W:World) (hx hy:JH) (lx ly:List JV) (z:Int):sF W {lp:=true,ol:=true,tl:=[36]} 79 [eV hx lx,eV hy ly] [] 100000 [ee,.lg,ee,cR (iA z) [],ee] []=.ok (.ret (bA (decide (z<0))) [],[ee],[MZ W 36 [eV hx lx,eV hy ly] [] (.ret (iA z) []),cloHs []]):=kr
theorem p80_0 (W:World) (hx hy:JH) (lx ly:List JV) (z:Int):sF W {lp:=true,ol:=true,tl:=[36]} 80 [eV hx lx,eV hy ly] [] 100000 [ee,.lg,ee,cR (iA z) [],ee] []=.ok (.ret (bA (decide (0<z))) [],[ee],[MZ W 36 [eV hx lx,eV hy ly] [] (.ret (iA z) []),cloHs []]):=kr
theorem call79:callable Tryz.prog 79=true:=kr
theorem call80:callable Tryz.prog 80=true:=kr
theorem ahead79 (W:World) (x y:JV) (hx:cntV x<=2 ^ 30):Pure Tryz.prog W 79 [encV x,encV y] (bA (decide (cmpF N0 x y<0))):=by
 have h36:=cmp36 W x y hx
 generalize cmpF N0 x y=z at *
 obtain ⟨hx',lx⟩:=x
 obtain ⟨hy',ly⟩:=y
 exact pure_of_mut rfl (mut_of_sfun mixedz call79 rfl (p79_0 W hx' hy' lx ly z) Id_z2)
theorem ahead80 (W:World) (x y:JV) (hx:cntV x<=2 ^ 30):Pure Tryz.prog W 80 [encV x,encV y] (bA (decide (0<cmpF N0 x y))):=by
 have h36:=cmp36 W x y hx
 generalize cmpF N0 x y=z at *
 obtain ⟨hx',lx⟩:=x
 obtain ⟨hy',ly⟩:=y
 exact pure_of_mut rfl (mut_of_sfun mixedz call80 rfl (p80_0 W hx' hy' lx ly z) Id_z2)
instance:Nonempty El:=⟨⟨0,0,⟨#[]⟩,none,0,0,none,0,0⟩⟩
theorem els_read {β:Nat->Plc} {D I:Nat->Prop} {w:World} {l:List JV} {v:Value} (hI:∀ b,I b->b<w.heap.size) (h:R β D I w.heap false (.sl 5 (encVs l) []) v) :
 ∃ (a:Option Addr) (b off cap:Nat) (el:Nat->El),v=.slice a l.length cap/\(0<l.length->b<w.heap.size)/\(0<l.length->a=some ⟨b,off,none⟩)/\(∀ i,i<l.length->(el i).at w b (off+i * 5)) ∧
  ∀ i x,l[i]?=some x->R β D I w.heap false (encV x) (el i).agg:=by
 generalize hE:encVs l=E at h
 cases h with
 | @sl m n els rest a cap arr T fz vs hi hs hH hn1 hn2 hcap hmax hv hone harr =>
  subst hE
  obtain ⟨b,off,sp⟩:=a
  cases hs
  have key:∀ i x,l[i]?=some x->∃ e:El,e.at w b (off+i * 5)/\R β D I w.heap false (encV x) e.agg:=by
   intro i x hx
   have hfl:((flats (encVs l)++flats []).drop (i * 5)).take 5=(encV x).flat:=by
    rw [show flats (encVs l)++flats []=flats (encVs l) from List.append_nil _]
    exact flats_get (encVs l) i (encV x) hn1 (encVs_get hx)
   have hr:=(hv.drop (i * 5)).take 5
   rw [hfl,encV_flat] at hr
   have hvs:∀ j u,((vs.drop (i * 5)).take 5)[j]?=some u->w.cell? ⟨b,off+i * 5+j,none⟩=some u:=fun j u hu=>by
    rw [List.getElem?_take] at hu
    split at hu
    case isFalse=>cases hu
    rw [List.getElem?_drop] at hu
    have:=harr _ _ hu
    simp only [World.cell?]
    rw [hH]
    simp only [Nat.add_assoc] at this ⊢
    simpa using this
   generalize (vs.drop (i * 5)).take 5=us at *
   cases hr with
   | cons r0 hr =>
   cases hr with
   | cons r1 hr =>
   cases hr with
   | cons r2 hr =>
   cases hr with
   | cons r3 hr =>
   cases hr with
   | cons r4 hr =>
   cases hr
   have q0:=r0;have q1:=r1;have q2:=r2
   cases r0;cases r1;cases r2
   obtain ⟨a3,l3,p3,rfl⟩:=r3.sl_cases
   obtain ⟨a4,l4,p4,rfl⟩:=r4.sl_cases
   refine ⟨⟨_,_,_,a3,l3,p3,a4,l4,p4⟩,⟨hvs 0 _ rfl,hvs 1 _ rfl,hvs 2 _ rfl,hvs 3 _ rfl,hvs 4 _ rfl⟩,?_⟩
   rw [encV_eq]
   exact .agg (.cons q0 (.cons q1 (.cons q2 (.cons r3 (.cons r4 (.nil _))))))
  refine ⟨_,b,off,cap,fun i=>match l[i]? with|some x=>Classical.epsilon fun e:El=>e.at w b (off+i * 5)/\R β D I w.heap false (encV x) e.agg|none=>⟨0,0,⟨#[]⟩,none,0,0,none,0,0⟩,by rw [encVs_len],fun _=>hI b hi,fun _=>rfl,fun i hi'=>?_,fun i x hx=>?_⟩
  ·obtain ⟨x,hx⟩:=getOf hi'
   simp only [hx]
   exact (Classical.epsilon_spec (key i x hx)).1
  ·simp only [hx]
   exact (Classical.epsilon_spec (key i x hx)).2
 | @sl0 m n base =>
  have h0:l=[]:=by
   cases l with
   | nil=>rfl
   | cons x l=>cases hE
  subst h0
  exact ⟨base,0,0,0,fun _=>⟨0,0,⟨#[]⟩,none,0,0,none,0,0⟩,rfl,fun h=>(by cases h),fun h=>(by cases h),fun i h=>(by cases h),fun i x h=>(by cases h)⟩
def chP (lt:Nat->Nat->Bool) (L:List Nat):Option Nat:=L.foldl (fun m x=>match m with|none=>some x|some y=>if lt x y=true then some x else some y) none
theorem chX_val {N:Nat} (lt:Nat->Nat->Bool) (zs:List (Ix N)):(chX lt zs).map (·.1)=chP lt (zs.map (·.1)):=by
 have key:∀ (zs:List (Ix N)) (m:Option (Ix N)),(zs.foldl (chS lt) m).map (·.1)=(zs.map (·.1)).foldl (fun m x=>match m with|none=>some x|some y=>if lt x y=true then some x else some y) (m.map (·.1)):=by
  intro zs
  induction zs with
  | nil=>intro m;rfl
  | cons x zs ih =>
   intro m
   rw [List.foldl_cons,List.map_cons,List.foldl_cons,ih]
   congr 1
   cases m with
   | none=>rfl
   | some y=>simp only [chS,Option.map_some];split<;>rfl
 exact key zs none
def chRes (m:Option Nat):AV:=.tup [iA ((m.getD 0:Nat):Int),bA m.isSome]
theorem r_chRes {β:Nat->Plc} {D I:Nat->Prop} {H:Array Obj} {N:Nat} (m:Option (Ix N)):R β D I H false (chRes (m.map (·.1))) (.tuple #[.int .i64 (idI m),.bool m.isSome]):=by
 cases m with
 | none=>exact .tup (.cons (.val _ _) (.cons (.val _ _) (.nil _)))
 | some m=>exact .tup (.cons (.val _ _) (.cons (.val _ _) (.nil _)))
theorem agree {W:World} {f:Nat} {lt:JV->JV->Bool} {l:List JV} {I:Nat->Prop} {β:Nat->Plc} {D:Nat->Prop} {w:World} {el:Nat->El} (hO:Over W w) (hI:∀ b,I b->b<w.heap.size)
 (hp:∀ x ∈ l,∀ y ∈ l,Pure Tryz.prog W f [encV x,encV y] (bA (lt x y))) (hr:∀ i x,l[i]?=some x->R β D I w.heap false (encV x) (el i).agg) (i j:Nat) (hi:i<l.length) (hj:j<l.length) (w1:World) (hB:Below w.heap.size w w1) :
 Calls Tryz.prog f #[(el i).agg,(el j).agg] w1 fun e W'=>e=.returned (.bool (ltAt lt l i j))/\Below w1.heap.size w1 W':=by
 obtain ⟨x,hx⟩:=getOf hi
 obtain ⟨y,hy⟩:=getOf hj
 rw [ltAt_eq hx hy]
 have K:∀ b,I b->I b/\w1.heap[b]?=w.heap[b]?:=fun b hb=>⟨hb,hB.block b (hI b hb)⟩
 have h1:=(hr i x hx).closed (β':=β) (D':=D) K rfl false
 have h2:=(hr j y hy).closed (β':=β) (D':=D) K rfl false
 have hO1:Over W w1:=⟨Nat.le_trans hO.size hB.size,fun b hb=>(hB.block b (Nat.lt_of_lt_of_le hb hO.size)).trans (hO.heap b hb),hB.os.trans hO.os,hB.tape.trans hO.tape,hB.output.trans hO.output⟩
 refine (hp x (List.mem_of_getElem? hx) y (List.mem_of_getElem? hy) β D I w1 [(el i).agg,(el j).agg] hO1 (fun b hb=>Nat.lt_of_lt_of_le (hI b hb) hB.size) (.cons h1 (.cons h2 (.nil _)))).mono ?_
 rintro e w' ⟨I',v,rfl,hv,hx'⟩
 cases hv
 exact ⟨rfl,⟨hx'.os,hx'.tape,hx'.output,hx'.size,hx'.heap⟩⟩
theorem least46 (W:World) (l:List JV) (hl:cntVs l<=2 ^ 30):Pure Tryz.prog W 46 [.sl 5 (encVs l) []] (chRes (chP (ltAt (fun x y=>decide (cmpF N0 x y<0)) l) (List.range l.length))):=fun β D I w vs hO hI hr=>by
 have hlc:=len_cnt l
 cases hr with
 | cons r hr =>
 cases hr
 obtain ⟨a,b,off,cap,el,rfl,hb,ha,hE,hR⟩:=els_read hI r
 refine (callsIn_wide.1 (Tryz.leastN46_in 4 (by omega) b off l.length cap a el (ltAt (fun x y=>decide (cmpF N0 x y<0)) l) (by omega) w hb ha hE (agree hO hI (fun x hx y _=>ahead79 W x y (by
  obtain ⟨i,hi⟩:=List.getElem?_of_mem hx
  have:=cntVs_get hi;omega)) hR))).mono ?_
 rintro e W' ⟨⟨zs,hz,rfl⟩,hB⟩
 refine ⟨I,_,rfl,?_,ext_below hB (fun b hb=>hI b hb)⟩
 rw [<-hz,<-chX_val]
 exact r_chRes _
theorem greatest47 (W:World) (l:List JV) (hl:cntVs l<=2 ^ 30):Pure Tryz.prog W 47 [.sl 5 (encVs l) []] (chRes (chP (ltAt (fun x y=>decide (0<cmpF N0 x y)) l) (List.range l.length))):=fun β D I w vs hO hI hr=>by
 have hlc:=len_cnt l
 cases hr with
 | cons r hr =>
 cases hr
 obtain ⟨a,b,off,cap,el,rfl,hb,ha,hE,hR⟩:=els_read hI r
 refine (callsIn_wide.1 (Tryz.greatestN47_in 4 (by omega) b off l.length cap a el (ltAt (fun x y=>decide (0<cmpF N0 x y)) l) (by omega) w hb ha hE (agree hO hI (fun x hx y _=>ahead80 W x y (by
  obtain ⟨i,hi⟩:=List.getElem?_of_mem hx
  have:=cntVs_get hi;omega)) hR))).mono ?_
 rintro e W' ⟨⟨zs,hz,rfl⟩,hB⟩
 refine ⟨I,_,rfl,?_,ext_below hB (fun b hb=>hI b hb)⟩
 rw [<-hz,<-chX_val]
 exact r_chRes _
end Dd
end Go.Ac

namespace Go.Ac
open Go Go.Proofs Go.RowKit
set_option maxRecDepth 10000
set_option maxHeartbeats 1000000
namespace De
def keyA (k:List (List UInt8)×Bool):AV:=.agg [.sl 1 (k.1.map AV.str) [],bA k.2]
def kysA (K:List (List (List UInt8)×Bool)):List AV:=K.map keyA
def sortA (K:List (List (List UInt8)×Bool)):AV:=.ip (.agg [.sl 2 (kysA K) []]) 0
def zA:AV:=.agg [iA 0,iA 0,.str [],.val (.slice none 0 0),.val (.slice none 0 0)]
theorem p21t_0 (W:World) (K:List (List (List UInt8)×Bool)) (hx:JH) (lx:List JV) (i:Nat):sF W {lp:=true,ol:=true,tl:=[44,45,46,47]} 21 [sortA K,eV hx lx,iA i] [] 100000 [aE 11,bt,ee] []=.ok (.ret (.agg [iA 0,iA 0,.str [],.val (Value.slice none 0 0),.val (Value.slice none 0 0)]) [],[ee],[decide ((↑(kysA K).length:Int)<=(i:Int))=true]):=kr
theorem p21t_1 (W:World) (K:List (List (List UInt8)×Bool)) (hx:JH) (lx l c:List JV) (p:List (List UInt8)) (i:Nat) (b:Bool) (z z2:Int):sF W {lp:=true,ol:=true,tl:=[44,45,46,47]} 21 [sortA K,eV hx lx,iA i] [] 100000 [aE 11,bf,aE 1,oS (.agg [sL 1 (List.map AV.str p),bA true]),ee,.lg,ee,cR (sL 5 (encVs l)) [],ee,.lg,ee,cR (sL 5 (encVs c)) [],ee,.lg,ee,cR (.tup [iA z,bA b]) [],aE 1,oS (.agg [sL 1 (List.map AV.str p),bA true]),ee,.lg,ee,cR (.tup [iA z2,bA b]) [],bt,ee] []=.ok (.ret (.agg [iA 0,iA 0,.str [],.val (Value.slice none 0 0),.val (Value.slice none 0 0)]) [],[ee],[(!b)=true,MZ W 47 [sL 5 (encVs c)] [] (.ret (.tup [iA z2,bA b]) []),cloHs [],(kysA K)[(i:Int).toNat]?=some (AV.agg [sL 1 (List.map AV.str p),bA true]),MZ W 46 [sL 5 (encVs c)] [] (.ret (.tup [iA z,bA b]) []),cloHs [],MZ W 44 [sL 5 (encVs l)] [] (.ret (sL 5 (encVs c)) []),cloHs [],MZ W 45 [eV hx lx,sL 1 (List.map AV.str p)] [] (.ret (sL 5 (encVs l)) []),cloHs [],(kysA K)[(i:Int).toNat]?=some (AV.agg [sL 1 (List.map AV.str p),bA true]),decide ((↑(kysA K).length:Int)<=(i:Int))=false]):=kr
theorem p21t_2 (W:World) (K:List (List (List UInt8)×Bool)) (hx hy:JH) (lx ly l c:List JV) (p:List (List UInt8)) (i:Nat) (b:Bool) (z z2:Int):sF W {lp:=true,ol:=true,tl:=[44,45,46,47]} 21 [sortA K,eV hx lx,iA i] [] 100000 [aE 11,bf,aE 1,oS (.agg [sL 1 (List.map AV.str p),bA true]),ee,.lg,ee,cR (sL 5 (encVs l)) [],ee,.lg,ee,cR (sL 5 (encVs c)) [],ee,.lg,ee,cR (.tup [iA z,bA b]) [],aE 1,oS (.agg [sL 1 (List.map AV.str p),bA true]),ee,.lg,ee,cR (.tup [iA z2,bA b]) [],bf,.lg,oS (eV hy ly),ee] []=.ok (.ret (eV hy ly) [],[ee],[(encVs c)[z2.toNat]?=some (eV hy ly),0<=z2,(!b)=false,MZ W 47 [sL 5 (encVs c)] [] (.ret (.tup [iA z2,bA b]) []),cloHs [],(kysA K)[(i:Int).toNat]?=some (AV.agg [sL 1 (List.map AV.str p),bA true]),MZ W 46 [sL 5 (encVs c)] [] (.ret (.tup [iA z,bA b]) []),cloHs [],MZ W 44 [sL 5 (encVs l)] [] (.ret (sL 5 (encVs c)) []),cloHs [],MZ W 45 [eV hx lx,sL 1 (List.map AV.str p)] [] (.ret (sL 5 (encVs l)) []),cloHs [],(kysA K)[(i:Int).toNat]?=some (AV.agg [sL 1 (List.map AV.str p),bA true]),decide ((↑(kysA K).length:Int)<=(i:Int))=false]):=kr
theorem p21f_1 (W:World) (K:List (List (List UInt8)×Bool)) (hx:JH) (lx l c:List JV) (p:List (List UInt8)) (i:Nat) (b:Bool) (z:Int):sF W {lp:=true,ol:=true,tl:=[44,45,46,47]} 21 [sortA K,eV hx lx,iA i] [] 100000 [aE 11,bf,aE 1,oS (.agg [sL 1 (List.map AV.str p),bA false]),ee,.lg,ee,cR (sL 5 (encVs l)) [],ee,.lg,ee,cR (sL 5 (encVs c)) [],ee,.lg,ee,cR (.tup [iA z,bA b]) [],aE 1,oS (.agg [sL 1 (List.map AV.str p),bA false]),aE 1,bt,ee] []=.ok (.ret (.agg [iA 0,iA 0,.str [],.val (Value.slice none 0 0),.val (Value.slice none 0 0)]) [],[ee],[(!b)=true,(kysA K)[(i:Int).toNat]?=some (AV.agg [sL 1 (List.map AV.str p),bA false]),MZ W 46 [sL 5 (encVs c)] [] (.ret (.tup [iA z,bA b]) []),cloHs [],MZ W 44 [sL 5 (encVs l)] [] (.ret (sL 5 (encVs c)) []),cloHs [],MZ W 45 [eV hx lx,sL 1 (List.map AV.str p)] [] (.ret (sL 5 (encVs l)) []),cloHs [],(kysA K)[(i:Int).toNat]?=some (AV.agg [sL 1 (List.map AV.str p),bA false]),decide ((↑(kysA K).length:Int)<=(i:Int))=false]):=kr
theorem p21f_2 (W:World) (K:List (List (List UInt8)×Bool)) (hx hy:JH) (lx ly l c:List JV) (p:List (List UInt8)) (i:Nat) (b:Bool) (z:Int):sF W {lp:=true,ol:=true,tl:=[44,45,46,47]} 21 [sortA K,eV hx lx,iA i] [] 100000 [aE 11,bf,aE 1,oS (.agg [sL 1 (List.map AV.str p),bA false]),ee,.lg,ee,cR (sL 5 (encVs l)) [],ee,.lg,ee,cR (sL 5 (encVs c)) [],ee,.lg,ee,cR (.tup [iA z,bA b]) [],aE 1,oS (.agg [sL 1 (List.map AV.str p),bA false]),aE 1,bf,.lg,oS (eV hy ly),ee] []=.ok (.ret (eV hy ly) [],[ee],[(encVs c)[z.toNat]?=some (eV hy ly),0<=z,(!b)=false,(kysA K)[(i:Int).toNat]?=some (AV.agg [sL 1 (List.map AV.str p),bA false]),MZ W 46 [sL 5 (encVs c)] [] (.ret (.tup [iA z,bA b]) []),cloHs [],MZ W 44 [sL 5 (encVs l)] [] (.ret (sL 5 (encVs c)) []),cloHs [],MZ W 45 [eV hx lx,sL 1 (List.map AV.str p)] [] (.ret (sL 5 (encVs l)) []),cloHs [],(kysA K)[(i:Int).toNat]?=some (AV.agg [sL 1 (List.map AV.str p),bA false]),decide ((↑(kysA K).length:Int)<=(i:Int))=false]):=kr
open Dd
def z0:JV:=.mk ⟨0,0,[],[]⟩ []
theorem z0_le:Le (.agg [iA 0,iA 0,.str [],.val (.slice none 0 0),.val (.slice none 0 0)]) (encV z0) :=
 .agg (.cons (.refl _) (.cons (.refl _) (.cons (.refl _) (.cons (.nil 1) (.cons (.nil 5) .nil)))))
def wayL (down:Bool) (x y:JV):Bool:=if down then decide (0<cmpF N0 x y) else decide (cmpF N0 x y<0)
def pickO (down:Bool) (c:List JV):Option Nat:=chP (ltAt (wayL down) c) (List.range c.length)
def keyO (p:List (List UInt8)) (down:Bool) (d:JV):JV:=match pickO down (candV p d) with|none=>z0|some j=>(candV p d).getD j z0
def keyV (K:List (List (List UInt8)×Bool)) (d:JV) (i:Nat):JV:=match K[i]? with|none=>z0|some k=>keyO k.1 k.2 d
theorem chP_mem (lt:Nat->Nat->Bool) (L:List Nat):(chP lt L=none/\L=[])\/∃ j,chP lt L=some j/\j ∈ L:=by
 have key:∀ (L:List Nat) (y:Nat),∃ j,L.foldl (fun m x=>match m with|none=>some x|some y=>if lt x y=true then some x else some y) (some y)=some j/\(j=y\/j ∈ L):=by
  intro L
  induction L with
  | nil=>intro y;exact ⟨y,rfl,.inl rfl⟩
  | cons x L ih =>
   intro y
   rw [List.foldl_cons]
   by_cases h:lt x y=true
   ·rw [show (match some y with|none=>some x|some y=>if lt x y=true then some x else some y)=some x from if_pos h]
    obtain ⟨j,h1,h2⟩:=ih x
    exact ⟨j,h1,.inr (by rcases h2 with rfl|h2<;>simp [*])⟩
   ·rw [show (match some y with|none=>some x|some y=>if lt x y=true then some x else some y)=some y from if_neg h]
    obtain ⟨j,h1,h2⟩:=ih y
    exact ⟨j,h1,by rcases h2 with rfl|h2<;>simp [*]⟩
 cases L with
 | nil=>exact .inl ⟨rfl,rfl⟩
 | cons x L =>
  obtain ⟨j,h1,h2⟩:=key L x
  exact .inr ⟨j,h1,by rcases h2 with rfl|h2<;>simp [*]⟩
theorem pickO_none {down:Bool} {c:List JV} (h:pickO down c=none):c=[]:=by
 rcases chP_mem (ltAt (wayL down) c) (List.range c.length) with ⟨_,h2⟩|⟨j,h2,_⟩
 ·have:=congrArg List.length h2;simp at this;exact this
 ·unfold pickO at h;rw [h] at h2;cases h2
theorem pickO_some {down:Bool} {c:List JV} {j:Nat} (h:pickO down c=some j):j<c.length:=by
 rcases chP_mem (ltAt (wayL down) c) (List.range c.length) with ⟨h1,_⟩|⟨k,h2,h3⟩
 ·unfold pickO at h;rw [h] at h1;cases h1
 ·unfold pickO at h;rw [h] at h2;cases h2;exact List.mem_range.1 h3
theorem call21:callable Tryz.prog 21=true:=kr
theorem kys_get {K:List (List (List UInt8)×Bool)} {i:Nat} {k:List (List UInt8)×Bool} (h:K[i]?=some k):(kysA K)[((i:Int)).toNat]?=some (keyA k):=by rw [Int.toNat_natCast];unfold kysA;rw [List.getElem?_map,h];rfl
theorem kys_len (K:List (List (List UInt8)×Bool)):(kysA K).length=K.length:=by unfold kysA;rw [List.length_map]
theorem key21 (W:World) (K:List (List (List UInt8)×Bool)) (d:JV) (i:Nat) (hd:cntV d<=2 ^ 30):Pure Tryz.prog W 21 [sortA K,encV d,iA i] (encV (keyV K d i)):=by
 have hkl:=kys_len K
 cases hk:K[i]? with
 | none =>
  have hi:=List.getElem?_eq_none_iff.1 hk
  have e:keyV K d i=z0:=by unfold keyV;rw [hk]
  rw [e]
  refine pure_leR z0_le ?_
  obtain ⟨hx,lx⟩:=d
  exact pure_of_mut rfl (mut_of_sfun mixedz call21 rfl (p21t_0 W K hx lx i) Id_z2)
 | some k =>
  have hi:=(List.getElem?_eq_some_iff.1 hk).1
  have hget:=kys_get hk
  have hac:=allV_cnt k.1 d
  have hcc:=candV_cnt k.1 d
  have h45:MutC Tryz.prog W 45 [encV d,.sl 1 (k.1.map AV.str) []] [] (.ret (.sl 5 (encVs (allV d k.1)) []) []):=mut_of_pure (by simp only [cloL,encV_clo,Bool.and_self];rfl) (all95 W _ d k.1 (Nat.lt_succ_self _) hd)
  have h44:MutC Tryz.prog W 44 [.sl 5 (encVs (allV d k.1)) []] [] (.ret (.sl 5 (encVs (candV k.1 d)) []) []):=mut_of_pure (by simp only [cloL,encVs_clo,AV.clo,Bool.and_self]) (opened44 W _ (by omega))
  have h46:=mut_of_pure (by simp only [cloL,encVs_clo,AV.clo,Bool.and_self]) (least46 W (candV k.1 d) (by omega))
  have h47:=mut_of_pure (by simp only [cloL,encVs_clo,AV.clo,Bool.and_self]) (greatest47 W (candV k.1 d) (by omega))
  have e:keyV K d i=keyO k.1 k.2 d:=by unfold keyV;rw [hk]
  rw [e]
  unfold keyO
  obtain ⟨p,down⟩:=k
  change MutC Tryz.prog W 46 _ _ (.ret (chRes (pickO false (candV p d))) []) at h46
  change MutC Tryz.prog W 47 _ _ (.ret (chRes (pickO true (candV p d))) []) at h47
  simp only at h45 h44 h46 h47 ⊢
  generalize candV p d=c at *
  generalize allV d p=l at *
  have hil:decide (((kysA K).length:Int)<=(i:Int))=false:=decide_eq_false (by omega)
  cases down with
  | true =>
   cases hp:pickO true c with
   | none =>
    have hc0:=pickO_none hp
    rw [hp] at h47
    have h46b:MutC Tryz.prog W 46 [.sl 5 (encVs c) []] [] (.ret (.tup [iA 0,bA false]) []):=by subst hc0;exact h46
    obtain ⟨hx,lx⟩:=d
    exact pure_leR z0_le (pure_of_mut rfl (mut_of_sfun mixedz call21 rfl (p21t_1 W K hx lx l c p i false 0 0) Id_z2))
   | some j =>
    have hj:=pickO_some hp
    rw [hp] at h47
    obtain ⟨y,hy⟩:=getOf hj
    have hy2:c.getD j z0=y:=by rw [List.getD_eq_getElem?_getD,hy];rfl
    have hgy:(encVs c)[((j:Int)).toNat]?=some (encV y):=by rw [Int.toNat_natCast];exact encVs_get hy
    cases hp2:pickO false c with
    | none=>have:=pickO_none hp2;subst this;cases hj
    | some j2 =>
     rw [hp2] at h46
     show Pure _ _ _ _ (encV (c.getD j z0))
     rw [hy2]
     obtain ⟨hx,lx⟩:=d
     obtain ⟨h',ly⟩:=y
     exact pure_of_mut (encV_clo _) (mut_of_sfun mixedz call21 rfl (p21t_2 W K hx h' lx ly l c p i true j2 j) Id_z2)
  | false =>
   cases hp:pickO false c with
   | none =>
    have hc0:=pickO_none hp
    rw [hp] at h46
    obtain ⟨hx,lx⟩:=d
    exact pure_leR z0_le (pure_of_mut rfl (mut_of_sfun mixedz call21 rfl (p21f_1 W K hx lx l c p i false 0) Id_z2))
   | some j =>
    have hj:=pickO_some hp
    rw [hp] at h46
    obtain ⟨y,hy⟩:=getOf hj
    have hy2:c.getD j z0=y:=by rw [List.getD_eq_getElem?_getD,hy];rfl
    have hgy:(encVs c)[((j:Int)).toNat]?=some (encV y):=by rw [Int.toNat_natCast];exact encVs_get hy
    show Pure _ _ _ _ (encV (c.getD j z0))
    rw [hy2]
    obtain ⟨hx,lx⟩:=d
    obtain ⟨h',ly⟩:=y
    exact pure_of_mut (encV_clo _) (mut_of_sfun mixedz call21 rfl (p21f_2 W K hx h' lx ly l c p i true j) Id_z2)
end De
end Go.Ac

namespace Go.Ac
open Go Go.Proofs
set_option maxRecDepth 10000
set_option maxHeartbeats 1000000
namespace Dd
section
variable (W:World)
end
end Dd
end Go.Ac

namespace Go.Ac
open Go Go.Proofs
set_option maxRecDepth 10000
set_option maxHeartbeats 1000000
namespace Dd
theorem tn_items {v:JV} (h:tnV v):tnVs v.items:=by cases v;exact h.2.2
theorem tn_item {v x:JV} (h:tnV v) (hx:x ∈ v.items):tnV x:=tnVs_mem (tn_items h) x hx
theorem tn_all:∀ (p:List (List UInt8)) (v:JV),tnV v->tnVs (allV v p)
 | [],v,h=>by rw [allV];exact ⟨h,trivial⟩
 | s::p,v,h=>by
  have one:∀ u,tnV u->tnVs (oneV u s (fun y=>allV y p)):=fun u hu=>by
   unfold oneV
   split
   ·trivial
   ·split
    ·rename_i x hx;exact tn_all p x (tn_item hu (List.mem_of_getElem? hx))
    ·trivial
  rw [allV]
  split
  ·have:∀ l:List JV,tnVs l->tnVs (l.flatMap fun x=>if x.kind=6 then oneV x s (fun y=>allV y p) else []):=by
    intro l
    have app:∀ a b:List JV,tnVs a->tnVs b->tnVs (a++b):=by
     intro a
     induction a with
     | nil=>intro b _ hb;exact hb
     | cons x a ih=>intro b ha hb;exact ⟨ha.1,ih b ha.2 hb⟩
    induction l with
    | nil=>intro _;trivial
    | cons x l ih =>
     intro hl
     rw [List.flatMap_cons]
     refine app _ _ ?_ (ih hl.2)
     split
     ·exact one x hl.1
     ·trivial
   exact this v.items (tn_items h)
  ·exact one v h
theorem tnVs_opV (v:JV) (h:tnV v):∀ x ∈ opV v,tnV x:=by
 unfold opV
 split
 ·exact tnVs_mem (tn_items h)
 ·intro x hx;rw [List.mem_singleton] at hx;subst hx;exact h
theorem cand_GV (p:List (List UInt8)) (v:JV) (h:GV v):∀ x ∈ candV p v,GV x:=by
 intro x hx
 constructor
 ·obtain ⟨i,hi⟩:=List.getElem?_of_mem hx
  have:=cntVs_get hi;have:=candV_cnt p v;have:=h.1;omega
 ·unfold candV at hx
  rw [openV_eq,List.mem_flatMap] at hx
  obtain ⟨y,hy,hx⟩:=hx
  exact tnVs_opV y (tnVs_mem (tn_all p v h.2) y hy) x hx
section
variable (W:World)
theorem manyC (D:List Doc) (hD:∀ x ∈ D,okV x.v) (hl:D.length<=2 ^ 41):∃ g:Bool,Pure Tryz.prog W 8 [.sl 7 (docsA D) []] (bA g)/\(g=false->D.length<=150/\dcnt D<=2 ^ 29):=by
 have hDl:=docs_len D
 have loop:∀ (k i:Nat) (n:Int),D.length - i=k->i<=D.length->0<=n->n<=2 ^ 55->∃ n',LoopC Tryz.prog W [] (nslots Tryz.prog 8) (loopOf Tryz.prog 8 0) (S8 D n i) (.exit 0) (E8 D n')/\n<=n'/\(n'<=5000->(dcnt (D.drop i):Int)<=5000 * ((D.length:Int) - i)):=by
  intro k
  induction k with
  | zero =>
   intro i n hk hi h0 h1
   have e:decide ((i:Int)<((docsA D).length:Int))=false:=by rw [hDl];exact decide_eq_false (by omega)
   refine ⟨n,loop_last (by simp) (body_of_sbodyK mixedz (b8_2 W D i n) Sn_z2 [] [] Sn_z1),Int.le_refl _,fun _=>?_⟩
   rw [List.drop_eq_nil_of_le (by omega)];simp only [dcnt];omega
  | succ k ih =>
   intro i n hk hi h0 h1
   have e:decide ((i:Int)<((docsA D).length:Int))=true:=by rw [hDl];exact decide_eq_true (by omega)
   by_cases hn:n<=5000
   case neg =>
    exact ⟨n,loop_last (by simp) (body_of_sbodyK mixedz (b8_1 W D i n) Sn_z2 [] [] Sn_z1),Int.le_refl _,fun h=>absurd h hn⟩
   obtain ⟨x,hx⟩:=getOf (l:=D) (i:=i) (by omega)
   have hxo:=hD x (List.mem_of_getElem? hx)
   have hp:=mut_of_pure (by simp [cloL,encV_clo,AV.clo,iA]) (parts W x.v 5000 hxo (by omega) (by omega))
   have h2:=partsV_bd x.v 5000 hxo (by omega)
   have hws:IntKind.i64.wrap ((i:Int)+1)=((i+1:Nat):Int):=wrap_succ (by omega)
   have hws2:IntKind.i64.wrap (n+partsV x.v 5000)=n+partsV x.v 5000:=IntWalk.i64_in _ (by omega)
   have g1:=docs_at hx
   rw [Nat.zero_add] at g1
   obtain ⟨n',nx,hle,hcn⟩:=ih (i+1) (n+partsV x.v 5000) (by omega) (by omega) (by omega) (by omega)
   exact ⟨n',loop_next (body_of_sbodyK mixedz (b8_0 W D i n (partsV x.v 5000) x) (by clear nx ih;exact Sn_z2) [] [] (σ3:=S8 D (n+partsV x.v 5000) (i+1)) (by clear nx ih;exact Sn_z1)) nx,by omega,fun h=>by
    have:=hcn h
    have:=parts_cnt x.v 5000 (by omega)
    rw [drop_cons hx];simp only [dcnt];omega⟩
 obtain ⟨n',hlp,h0n,hcn⟩:=loop D.length 0 0 (by omega) (by omega) (by omega) (by omega)
 by_cases h150:150<D.length
 ·have e:decide (150<((docsA D).length:Int))=true:=by rw [hDl];exact decide_eq_true (by omega)
  exact ⟨true,pure_of_mut rfl (mut_of_sfun mixedz call8 rfl (p8_0 W D n') Sn_z2),fun h=>by cases h⟩
 ·have e:decide (150<((docsA D).length:Int))=false:=by rw [hDl];exact decide_eq_false (by omega)
  refine ⟨_,pure_of_mut rfl (mut_of_sfun mixedz call8 rfl (p8_1 W D n') Sn_z2),fun hg=>?_⟩
  have:=hcn (by have:=of_decide_eq_false hg;omega)
  rw [List.drop_zero] at this
  omega
end
end Dd
end Go.Ac

namespace Go.Ac
open Go Go.Proofs Go.RowKit
set_option maxRecDepth 10000
set_option maxHeartbeats 1000000
namespace De
open Dd
def rkyA (k:List (List UInt8)×Bool):AV:=.agg [.sl 1 (k.1.map AV.str) [],iA (if k.2 then -1 else 1)]
def rksA (K:List (List (List UInt8)×Bool)):List AV:=K.map rkyA
theorem rks_get {K:List (List (List UInt8)×Bool)} {i:Nat} {k:List (List UInt8)×Bool} (h:K[i]?=some k):(rksA K)[((i:Int)).toNat]?=some (rkyA k):=by rw [Int.toNat_natCast];unfold rksA;rw [List.getElem?_map,h];rfl
theorem rks_len (K:List (List (List UInt8)×Bool)):(rksA K).length=K.length:=by unfold rksA;rw [List.length_map]
end De
end Go.Ac

namespace Go.Ac
open Go Go.Proofs Go.RowKit
set_option maxRecDepth 10000
set_option maxHeartbeats 1000000
namespace De
open Dd
def S13 (K:List (List (List UInt8)×Bool)) (x y:Doc) (i:Nat):AS:=⟨[(0,sortA K),(4,.gp 100000 0),(5,.gp 100001 0),(15,iA (kysA K).length),(16,iA i)],[(100000,.box (docA x) .own),(100001,.box (docA y) .own)]⟩
def E13 (x y:Doc):AS:=⟨[(4,.gp 100000 0),(5,.gp 100001 0)],[(100000,.box (docA x) .own),(100001,.box (docA y) .own)]⟩
def R13 (z:Int):AS:=⟨[(6,iA z)],[]⟩
def S14 (K:List (List (List UInt8)×Bool)) (x y:Doc) (i:Nat):AS:=⟨[(0,.sl 2 (rksA K) []),(4,.gp 100000 0),(5,.gp 100001 0),(7,iA i)],[(100000,.box (docA x) .own),(100001,.box (docA y) .own)]⟩
def S62 (a b:List (List UInt8)) (i:Nat):AS:=⟨[(0,.sl 1 (a.map AV.str) []),(1,.sl 1 (b.map AV.str) []),(5,iA i)],[]⟩
def R62 (b:Bool):AS:=⟨[(4,bA b)],[]⟩
def S32 (a b:List (List UInt8)) (i:Nat):AS:=⟨[(0,.sl 1 (a.map AV.str) []),(1,.sl 1 (b.map AV.str) []),(12,iA (a.map AV.str).length),(13,iA i)],[]⟩
def E0e:AS:=⟨[],[]⟩
def clP (p:List (List UInt8)):AV:=.fn (.func 31) [] [.ip (.sl 1 (p.map AV.str) []) 0]
def S60 (K:List (List (List UInt8)×Bool)) (p:List (List UInt8)) (i:Nat):AS:=⟨[(0,.sl 2 (kysA K) []),(1,clP p),(7,iA (kysA K).length),(8,iA i)],[]⟩
theorem p13_0 (W:World) (K:List (List (List UInt8)×Bool)) (hx hy:JH) (lx ly:List JV) (ix iy:List UInt8) (vx vy:Int) (z:Int):sF W {lp:=true,ol:=true,tl:=[21,36,37]} 13 [sortA K,docA ⟨ix,vx,.mk hx lx⟩,docA ⟨iy,vy,.mk hy ly⟩] [] 100000 [ee,.loopM [] [] (S13 K {id:=ix,ver:=vx,v:=JV.mk hx lx} {id:=iy,ver:=vy,v:=JV.mk hy ly} 0) (.exit 0) (E13 {id:=ix,ver:=vx,v:=JV.mk hx lx} {id:=iy,ver:=vy,v:=JV.mk hy ly}),ee,.lg,ee,cR (iA z) [],ee] []=.ok (.ret (iA z) [],[ee],[MZ W 37 [.str ix,.str iy] [] (.ret (iA z) []),cloHs [],LZ W [] 13 0 (S13 K {id:=ix,ver:=vx,v:=JV.mk hx lx} {id:=iy,ver:=vy,v:=JV.mk hy ly} 0) (.exit 0) (E13 {id:=ix,ver:=vx,v:=JV.mk hx lx} {id:=iy,ver:=vy,v:=JV.mk hy ly}),MatchK [] [] [] {t:=[(0,(AV.agg [sL 2 (kysA K)]).ip 0),(4,.gp 100000 0),(5,.gp 100001 0),(15,iA (↑(kysA K).length:Int)),(16,iA 0)],h:=[(100000,gB (.agg [.str ix,iA vx,iA hx.kind,iA hx.int,.str hx.3,sL 1 (List.map AV.str hx.names),sL 5 (encVs lx)])),(100001,gB (.agg [.str iy,iA vy,iA hy.kind,iA hy.int,.str hy.3,sL 1 (List.map AV.str hy.names),sL 5 (encVs ly)]))]} (S13 K {id:=ix,ver:=vx,v:=JV.mk hx lx} {id:=iy,ver:=vy,v:=JV.mk hy ly} 0)]):=kr
theorem q13_0 (W:World) (K:List (List (List UInt8)×Bool)) (hx hy:JH) (lx ly:List JV) (ix iy:List UInt8) (vx vy:Int) (z:Int):sF W {lp:=true,ol:=true,tl:=[21,36,37]} 13 [sortA K,docA ⟨ix,vx,.mk hx lx⟩,docA ⟨iy,vy,.mk hy ly⟩] [] 100000 [ee,.loopM [] [] (S13 K {id:=ix,ver:=vx,v:=JV.mk hx lx} {id:=iy,ver:=vy,v:=JV.mk hy ly} 0) .ret (R13 z),ee] []=.ok (.ret (iA z) [],[ee],[LZ W [] 13 0 (S13 K {id:=ix,ver:=vx,v:=JV.mk hx lx} {id:=iy,ver:=vy,v:=JV.mk hy ly} 0) .ret (R13 z),MatchK [] [] [] {t:=[(0,(AV.agg [sL 2 (kysA K)]).ip 0),(4,.gp 100000 0),(5,.gp 100001 0),(15,iA (↑(kysA K).length:Int)),(16,iA 0)],h:=[(100000,gB (.agg [.str ix,iA vx,iA hx.kind,iA hx.int,.str hx.3,sL 1 (List.map AV.str hx.names),sL 5 (encVs lx)])),(100001,gB (.agg [.str iy,iA vy,iA hy.kind,iA hy.int,.str hy.3,sL 1 (List.map AV.str hy.names),sL 5 (encVs ly)]))]} (S13 K {id:=ix,ver:=vx,v:=JV.mk hx lx} {id:=iy,ver:=vy,v:=JV.mk hy ly} 0)]):=kr
theorem p37_0 (W:World) (s t:List UInt8):sF W {lp:=true,ol:=true,tl:=[]} 37 [.str s,.str t] [] 100000 [ee] []=.ok (.ret (iA (cmpB s t)) [],[aE 9999999],[]):=kr
theorem p62_0 (W:World) (p q2:List (List UInt8)):sF W {lp:=true,ol:=true,tl:=[]} 62 [.sl 1 (p.map AV.str) [],.sl 1 (q2.map AV.str) []] [] 100000 [ee,.loopM [] [] (S62 p q2 0) (.exit 0) E0e,ee] []=.ok (.ret (bA true) [],[ee],[LZ W [] 62 0 (S62 p q2 0) (.exit 0) E0e,MatchK [] [] [] {t:=[(0,sL 1 (List.map AV.str p)),(1,sL 1 (List.map AV.str q2)),(5,iA 0)],h:=[]} (S62 p q2 0)]):=kr
theorem q62_0 (W:World) (p q2:List (List UInt8)):sF W {lp:=true,ol:=true,tl:=[]} 62 [.sl 1 (p.map AV.str) [],.sl 1 (q2.map AV.str) []] [] 100000 [ee,.loopM [] [] (S62 p q2 0) .ret (R62 false),ee] []=.ok (.ret (bA false) [],[ee],[LZ W [] 62 0 (S62 p q2 0) .ret (R62 false),MatchK [] [] [] {t:=[(0,sL 1 (List.map AV.str p)),(1,sL 1 (List.map AV.str q2)),(5,iA 0)],h:=[]} (S62 p q2 0)]):=kr
theorem p35_0 (W:World) (p q2:List (List UInt8)) (b:Bool):sF W {lp:=true,ol:=true,tl:=[62]} 35 [.sl 1 (p.map AV.str) [],.sl 1 (q2.map AV.str) []] [] 100000 [bt,bt,bt,ee,.lg,ee,cR (bA b) [],bt,ee] []=.ok (.ret (bA b) [],[ee],(decide ((↑(List.map AV.str p).length:Int)=(↑(List.map AV.str q2).length:Int))=true)::MZ W 62 [sL 1 (List.map AV.str p),sL 1 (List.map AV.str q2)] [] (.ret (bA b) [])::cloHs []::(d3 (decide ((↑(List.map AV.str p).length:Int)=(↑(List.map AV.str q2).length:Int))=true) [])):=kr
theorem p35_1 (W:World) (p q2:List (List UInt8)):sF W {lp:=true,ol:=true,tl:=[62]} 35 [.sl 1 (p.map AV.str) [],.sl 1 (q2.map AV.str) []] [] 100000 [bf,bf,bf,bf,ee] []=.ok (.ret (bA false) [],[ee],d4 (decide ((↑(List.map AV.str p).length:Int)=(↑(List.map AV.str q2).length:Int))=false) []):=kr
theorem p32_0 (W:World) (p q2:List (List UInt8)):sF W {lp:=true,ol:=true,tl:=[]} 32 [.sl 1 (p.map AV.str) [],.sl 1 (q2.map AV.str) []] [] 100000 [bt,ee] []=.ok (.ret (bA false) [],[ee],[(!decide ((↑(List.map AV.str p).length:Int)=(↑(List.map AV.str q2).length:Int)))=true]):=kr
theorem p32_1 (W:World) (p q2:List (List UInt8)):sF W {lp:=true,ol:=true,tl:=[]} 32 [.sl 1 (p.map AV.str) [],.sl 1 (q2.map AV.str) []] [] 100000 [bf,ee,.loopM [] [] (S32 p q2 0) (.exit 0) E0e,ee] []=.ok (.ret (bA true) [],[ee],[LZ W [] 32 0 (S32 p q2 0) (.exit 0) E0e,MatchK [] [] [] {t:=[(0,sL 1 (List.map AV.str p)),(1,sL 1 (List.map AV.str q2)),(12,iA (↑(List.map AV.str p).length:Int)),(13,iA 0)],h:=[]} (S32 p q2 0),(!decide ((↑(List.map AV.str p).length:Int)=(↑(List.map AV.str q2).length:Int)))=false]):=kr
theorem q32_1 (W:World) (p q2:List (List UInt8)):sF W {lp:=true,ol:=true,tl:=[]} 32 [.sl 1 (p.map AV.str) [],.sl 1 (q2.map AV.str) []] [] 100000 [bf,ee,.loopM [] [] (S32 p q2 0) .ret (R62 false),ee] []=.ok (.ret (bA false) [],[ee],[LZ W [] 32 0 (S32 p q2 0) .ret (R62 false),MatchK [] [] [] {t:=[(0,sL 1 (List.map AV.str p)),(1,sL 1 (List.map AV.str q2)),(12,iA (↑(List.map AV.str p).length:Int)),(13,iA 0)],h:=[]} (S32 p q2 0),(!decide ((↑(List.map AV.str p).length:Int)=(↑(List.map AV.str q2).length:Int)))=false]):=kr
theorem p31_0 (W:World) (p q2:List (List UInt8)) (b b2:Bool):sF W {lp:=true,ol:=true,tl:=[32]} 31 [.agg [.sl 1 (p.map AV.str) [],bA b2],.ip (.sl 1 (q2.map AV.str) []) 0] [] 100000 [ee,.lg,ee,cR (bA b) [],ee] []=.ok (.ret (bA b) [],[ee],[MZ W 32 [sL 1 (List.map AV.str p),sL 1 (List.map AV.str q2)] [] (.ret (bA b) []),cloHs []]):=kr
theorem p30_0 (W:World) (K:List (List (List UInt8)×Bool)) (p:List (List UInt8)) (z:Int):sF W {lp:=true,ol:=true,tl:=[60]} 30 [.sl 2 (kysA K) [],clP p] [] 100000 [ee,.lg,ee,cR (iA z) [],ee] []=.ok (.ret (bA (decide (0<=z))) [],[ee],[MZ W 60 [sL 2 (kysA K),.fn (Fn.func 31) [] [(sL 1 (List.map AV.str p)).ip 0]] [] (.ret (iA z) []),cloHs []]):=kr
theorem p60_0 (W:World) (K:List (List (List UInt8)×Bool)) (p:List (List UInt8)):sF W {lp:=true,ol:=true,tl:=[31]} 60 [.sl 2 (kysA K) [],clP p] [] 100000 [ee,.loopM [] [] (S60 K p 0) (.exit 0) E0e,ee] []=.ok (.ret (iA (-1)) [],[ee],[LZ W [] 60 0 (S60 K p 0) (.exit 0) E0e,MatchK [] [] [] {t:=[(0,sL 2 (kysA K)),(1,.fn (Fn.func 31) [] [(sL 1 (List.map AV.str p)).ip 0]),(7,iA (↑(kysA K).length:Int)),(8,iA 0)],h:=[]} (S60 K p 0)]):=kr
theorem q60_0 (W:World) (K:List (List (List UInt8)×Bool)) (p:List (List UInt8)) (n:Nat):sF W {lp:=true,ol:=true,tl:=[31]} 60 [.sl 2 (kysA K) [],clP p] [] 100000 [ee,.loopM [] [] (S60 K p 0) .ret {t:=[(4,iA (n:Int))],h:=[]},ee] []=.ok (.ret (iA (n:Int)) [],[ee],[LZ W [] 60 0 (S60 K p 0) .ret {t:=[(4,iA (n:Int))],h:=[]},MatchK [] [] [] {t:=[(0,sL 2 (kysA K)),(1,.fn (Fn.func 31) [] [(sL 1 (List.map AV.str p)).ip 0]),(7,iA (↑(kysA K).length:Int)),(8,iA 0)],h:=[]} (S60 K p 0)]):=kr
theorem b13t_0 (W:World) (K:List (List (List UInt8)×Bool)) (hx hy ha hb:JH) (lx ly la lb:List JV) (p:List (List UInt8)) (ix iy:List UInt8) (vx vy:Int) (i:Nat) (z:Int):sQ W {lp:=true,ol:=true,tl:=[21,36]} 13 0 [] [0,4,5,6,15,16] (S13 K ⟨ix,vx,.mk hx lx⟩ ⟨iy,vy,.mk hy ly⟩ i) [bt,ee,.lg,ee,cR (eV ha la) [],ee,.lg,ee,cR (eV hb lb) [],ee,.lg,ee,cR (iA z) [],aE 1,oS (.agg [sL 1 (List.map AV.str p),bA true]),aE 1,bt,ee]=.ok ((.ret,{t:=[(0,(AV.agg [sL 2 (kysA K)]).ip 0),(4,.gp 100000 0),(5,.gp 100001 0),(6,iA (IntKind.i64.wrap (0 - z))),(15,iA (↑(kysA K).length:Int)),(16,iA (i:Int))],h:=[(100000,gB (.agg [.str ix,iA vx,iA hx.kind,iA hx.int,.str hx.3,sL 1 (List.map AV.str hx.names),sL 5 (encVs lx)])),(100001,gB (.agg [.str iy,iA vy,iA hy.kind,iA hy.int,.str hy.3,sL 1 (List.map AV.str hy.names),sL 5 (encVs ly)]))]}),[ee],[(!decide (IntKind.i64.wrap (0 - z)=0))=true,(kysA K)[(i:Int).toNat]?=some (AV.agg [sL 1 (List.map AV.str p),bA true]),MZ W 36 [eV ha la,eV hb lb] [] (.ret (iA z) []),cloHs [],MZ W 21 [(AV.agg [sL 2 (kysA K)]).ip 0,.agg [iA hy.kind,iA hy.int,.str hy.3,sL 1 (List.map AV.str hy.names),sL 5 (encVs ly)],iA (i:Int)] [] (.ret (eV hb lb) []),cloHs [],MZ W 21 [(AV.agg [sL 2 (kysA K)]).ip 0,.agg [iA hx.kind,iA hx.int,.str hx.3,sL 1 (List.map AV.str hx.names),sL 5 (encVs lx)],iA (i:Int)] [] (.ret (eV ha la) []),cloHs [],decide ((i:Int)<(↑(kysA K).length:Int))=true]):=kr
theorem b13t_1 (W:World) (K:List (List (List UInt8)×Bool)) (hx hy ha hb:JH) (lx ly la lb:List JV) (p:List (List UInt8)) (ix iy:List UInt8) (vx vy:Int) (i:Nat) (z:Int):sQ W {lp:=true,ol:=true,tl:=[21,36]} 13 0 [] [0,4,5,6,15,16] (S13 K ⟨ix,vx,.mk hx lx⟩ ⟨iy,vy,.mk hy ly⟩ i) [bt,ee,.lg,ee,cR (eV ha la) [],ee,.lg,ee,cR (eV hb lb) [],ee,.lg,ee,cR (iA z) [],aE 1,oS (.agg [sL 1 (List.map AV.str p),bA true]),aE 1,bf,ee]=.ok ((.normal,{t:=[(0,(AV.agg [sL 2 (kysA K)]).ip 0),(4,.gp 100000 0),(5,.gp 100001 0),(15,iA (↑(kysA K).length:Int)),(16,iA (IntKind.i64.wrap ((i:Int)+1)))],h:=[(100000,gB (.agg [.str ix,iA vx,iA hx.kind,iA hx.int,.str hx.3,sL 1 (List.map AV.str hx.names),sL 5 (encVs lx)])),(100001,gB (.agg [.str iy,iA vy,iA hy.kind,iA hy.int,.str hy.3,sL 1 (List.map AV.str hy.names),sL 5 (encVs ly)]))]}),[ee],[(!decide (IntKind.i64.wrap (0 - z)=0))=false,(kysA K)[(i:Int).toNat]?=some (AV.agg [sL 1 (List.map AV.str p),bA true]),MZ W 36 [eV ha la,eV hb lb] [] (.ret (iA z) []),cloHs [],MZ W 21 [(AV.agg [sL 2 (kysA K)]).ip 0,.agg [iA hy.kind,iA hy.int,.str hy.3,sL 1 (List.map AV.str hy.names),sL 5 (encVs ly)],iA (i:Int)] [] (.ret (eV hb lb) []),cloHs [],MZ W 21 [(AV.agg [sL 2 (kysA K)]).ip 0,.agg [iA hx.kind,iA hx.int,.str hx.3,sL 1 (List.map AV.str hx.names),sL 5 (encVs lx)],iA (i:Int)] [] (.ret (eV ha la) []),cloHs [],decide ((i:Int)<(↑(kysA K).length:Int))=true]):=kr
theorem b13t_2 (W:World) (K:List (List (List UInt8)×Bool)) (hx hy:JH) (lx ly:List JV) (ix iy:List UInt8) (vx vy:Int) (i:Nat):sQ W {lp:=true,ol:=true,tl:=[21,36]} 13 0 [] [0,4,5,6,15,16] (S13 K ⟨ix,vx,.mk hx lx⟩ ⟨iy,vy,.mk hy ly⟩ i) [bf,ee]=.ok ((.exit 0,{t:=[(0,(AV.agg [sL 2 (kysA K)]).ip 0),(4,.gp 100000 0),(5,.gp 100001 0),(15,iA (↑(kysA K).length:Int)),(16,iA (i:Int))],h:=[(100000,gB (.agg [.str ix,iA vx,iA hx.kind,iA hx.int,.str hx.3,sL 1 (List.map AV.str hx.names),sL 5 (encVs lx)])),(100001,gB (.agg [.str iy,iA vy,iA hy.kind,iA hy.int,.str hy.3,sL 1 (List.map AV.str hy.names),sL 5 (encVs ly)]))]}),[ee],[decide ((i:Int)<(↑(kysA K).length:Int))=false]):=kr
theorem b13f_0 (W:World) (K:List (List (List UInt8)×Bool)) (hx hy ha hb:JH) (lx ly la lb:List JV) (p:List (List UInt8)) (ix iy:List UInt8) (vx vy:Int) (i:Nat) (z:Int):sQ W {lp:=true,ol:=true,tl:=[21,36]} 13 0 [] [0,4,5,6,15,16] (S13 K ⟨ix,vx,.mk hx lx⟩ ⟨iy,vy,.mk hy ly⟩ i) [bt,ee,.lg,ee,cR (eV ha la) [],ee,.lg,ee,cR (eV hb lb) [],ee,.lg,ee,cR (iA z) [],aE 1,oS (.agg [sL 1 (List.map AV.str p),bA false]),aE 1,bt,ee]=.ok ((.ret,{t:=[(0,(AV.agg [sL 2 (kysA K)]).ip 0),(4,.gp 100000 0),(5,.gp 100001 0),(6,iA z),(15,iA (↑(kysA K).length:Int)),(16,iA (i:Int))],h:=[(100000,gB (.agg [.str ix,iA vx,iA hx.kind,iA hx.int,.str hx.3,sL 1 (List.map AV.str hx.names),sL 5 (encVs lx)])),(100001,gB (.agg [.str iy,iA vy,iA hy.kind,iA hy.int,.str hy.3,sL 1 (List.map AV.str hy.names),sL 5 (encVs ly)]))]}),[ee],[(!decide (z=0))=true,(kysA K)[(i:Int).toNat]?=some (AV.agg [sL 1 (List.map AV.str p),bA false]),MZ W 36 [eV ha la,eV hb lb] [] (.ret (iA z) []),cloHs [],MZ W 21 [(AV.agg [sL 2 (kysA K)]).ip 0,.agg [iA hy.kind,iA hy.int,.str hy.3,sL 1 (List.map AV.str hy.names),sL 5 (encVs ly)],iA (i:Int)] [] (.ret (eV hb lb) []),cloHs [],MZ W 21 [(AV.agg [sL 2 (kysA K)]).ip 0,.agg [iA hx.kind,iA hx.int,.str hx.3,sL 1 (List.map AV.str hx.names),sL 5 (encVs lx)],iA (i:Int)] [] (.ret (eV ha la) []),cloHs [],decide ((i:Int)<(↑(kysA K).length:Int))=true]):=kr
theorem b13f_1 (W:World) (K:List (List (List UInt8)×Bool)) (hx hy ha hb:JH) (lx ly la lb:List JV) (p:List (List UInt8)) (ix iy:List UInt8) (vx vy:Int) (i:Nat) (z:Int):sQ W {lp:=true,ol:=true,tl:=[21,36]} 13 0 [] [0,4,5,6,15,16] (S13 K ⟨ix,vx,.mk hx lx⟩ ⟨iy,vy,.mk hy ly⟩ i) [bt,ee,.lg,ee,cR (eV ha la) [],ee,.lg,ee,cR (eV hb lb) [],ee,.lg,ee,cR (iA z) [],aE 1,oS (.agg [sL 1 (List.map AV.str p),bA false]),aE 1,bf,ee]=.ok ((.normal,{t:=[(0,(AV.agg [sL 2 (kysA K)]).ip 0),(4,.gp 100000 0),(5,.gp 100001 0),(15,iA (↑(kysA K).length:Int)),(16,iA (IntKind.i64.wrap ((i:Int)+1)))],h:=[(100000,gB (.agg [.str ix,iA vx,iA hx.kind,iA hx.int,.str hx.3,sL 1 (List.map AV.str hx.names),sL 5 (encVs lx)])),(100001,gB (.agg [.str iy,iA vy,iA hy.kind,iA hy.int,.str hy.3,sL 1 (List.map AV.str hy.names),sL 5 (encVs ly)]))]}),[ee],[(!decide (z=0))=false,(kysA K)[(i:Int).toNat]?=some (AV.agg [sL 1 (List.map AV.str p),bA false]),MZ W 36 [eV ha la,eV hb lb] [] (.ret (iA z) []),cloHs [],MZ W 21 [(AV.agg [sL 2 (kysA K)]).ip 0,.agg [iA hy.kind,iA hy.int,.str hy.3,sL 1 (List.map AV.str hy.names),sL 5 (encVs ly)],iA (i:Int)] [] (.ret (eV hb lb) []),cloHs [],MZ W 21 [(AV.agg [sL 2 (kysA K)]).ip 0,.agg [iA hx.kind,iA hx.int,.str hx.3,sL 1 (List.map AV.str hx.names),sL 5 (encVs lx)],iA (i:Int)] [] (.ret (eV ha la) []),cloHs [],decide ((i:Int)<(↑(kysA K).length:Int))=true]):=kr
theorem b62_0 (W:World) (p q2:List (List UInt8)) (s t:List UInt8) (i:Nat):sQ W {lp:=true,ol:=true,tl:=[]} 62 0 [] [0,1,4,5] (S62 p q2 i) [bt,bt,bt,bt,bt,bt,aE 1,oS (.str s),aE 1,oS (.str t),bt,ee]=.ok ((.ret,{t:=[(0,sL 1 (List.map AV.str p)),(1,sL 1 (List.map AV.str q2)),(4,bA false),(5,iA (i:Int))],h:=[]}),[ee],((!decide (s=t))=true)::((List.map AV.str q2)[(i:Int).toNat]?=some (AV.str t))::((List.map AV.str p)[(i:Int).toNat]?=some (AV.str s))::(decide ((i:Int)<(↑(List.map AV.str q2).length:Int))=true)::(decide ((i:Int)<(↑(List.map AV.str p).length:Int))=true)::(d4 (decide ((i:Int)<(↑(List.map AV.str p).length:Int))=true) [])):=kr
theorem b62_1 (W:World) (p q2:List (List UInt8)) (s t:List UInt8) (i:Nat):sQ W {lp:=true,ol:=true,tl:=[]} 62 0 [] [0,1,4,5] (S62 p q2 i) [bt,bt,bt,bt,bt,bt,aE 1,oS (.str s),aE 1,oS (.str t),bf,ee]=.ok ((.normal,{t:=[(0,sL 1 (List.map AV.str p)),(1,sL 1 (List.map AV.str q2)),(5,iA (IntKind.i64.wrap ((i:Int)+1)))],h:=[]}),[ee],((!decide (s=t))=false)::((List.map AV.str q2)[(i:Int).toNat]?=some (AV.str t))::((List.map AV.str p)[(i:Int).toNat]?=some (AV.str s))::(decide ((i:Int)<(↑(List.map AV.str q2).length:Int))=true)::(decide ((i:Int)<(↑(List.map AV.str p).length:Int))=true)::(d4 (decide ((i:Int)<(↑(List.map AV.str p).length:Int))=true) [])):=kr
theorem b62_3 (W:World) (p q2:List (List UInt8)) (i:Nat):sQ W {lp:=true,ol:=true,tl:=[]} 62 0 [] [0,1,4,5] (S62 p q2 i) [bf,bf,bf,bf,bf,ee]=.ok ((.exit 0,{t:=[(0,sL 1 (List.map AV.str p)),(1,sL 1 (List.map AV.str q2)),(5,iA (i:Int))],h:=[]}),[aE 9999999],(decide ((i:Int)<(↑(List.map AV.str p).length:Int))=false)::(d4 (decide ((i:Int)<(↑(List.map AV.str p).length:Int))=false) [])):=kr
theorem b32_0 (W:World) (p q2:List (List UInt8)) (s t:List UInt8) (i:Nat):sQ W {lp:=true,ol:=true,tl:=[]} 32 0 [] [0,1,4,12,13] (S32 p q2 i) [bt,aE 1,oS (.str s),aE 1,oS (.str t),bt,ee]=.ok ((.ret,{t:=[(0,sL 1 (List.map AV.str p)),(1,sL 1 (List.map AV.str q2)),(4,bA false),(12,iA (↑(List.map AV.str p).length:Int)),(13,iA (i:Int))],h:=[]}),[ee],[(!decide (s=t))=true,(List.map AV.str q2)[(i:Int).toNat]?=some (AV.str t),(List.map AV.str p)[(i:Int).toNat]?=some (AV.str s),decide ((i:Int)<(↑(List.map AV.str p).length:Int))=true]):=kr
theorem b32_1 (W:World) (p q2:List (List UInt8)) (s t:List UInt8) (i:Nat):sQ W {lp:=true,ol:=true,tl:=[]} 32 0 [] [0,1,4,12,13] (S32 p q2 i) [bt,aE 1,oS (.str s),aE 1,oS (.str t),bf,ee]=.ok ((.normal,{t:=[(0,sL 1 (List.map AV.str p)),(1,sL 1 (List.map AV.str q2)),(12,iA (↑(List.map AV.str p).length:Int)),(13,iA (IntKind.i64.wrap ((i:Int)+1)))],h:=[]}),[ee],[(!decide (s=t))=false,(List.map AV.str q2)[(i:Int).toNat]?=some (AV.str t),(List.map AV.str p)[(i:Int).toNat]?=some (AV.str s),decide ((i:Int)<(↑(List.map AV.str p).length:Int))=true]):=kr
theorem b32_2 (W:World) (p q2:List (List UInt8)) (i:Nat):sQ W {lp:=true,ol:=true,tl:=[]} 32 0 [] [0,1,4,12,13] (S32 p q2 i) [bf,ee]=.ok ((.exit 0,{t:=[(0,sL 1 (List.map AV.str p)),(1,sL 1 (List.map AV.str q2)),(12,iA (↑(List.map AV.str p).length:Int)),(13,iA (i:Int))],h:=[]}),[ee],[decide ((i:Int)<(↑(List.map AV.str p).length:Int))=false]):=kr
theorem b60_0 (W:World) (K:List (List (List UInt8)×Bool)) (p q2:List (List UInt8)) (i:Nat) (b b2:Bool):sQ W {lp:=true,ol:=true,tl:=[31]} 60 0 [] [0,1,4,7,8] (S60 K p i) [bt,aE 1,oS (.agg [sL 1 (List.map AV.str q2),bA b2]),ee,.lg,ee,cR (bA b) [],bt,ee]=.ok ((.ret,{t:=[(0,sL 2 (kysA K)),(1,.fn (Fn.func 31) [] [(sL 1 (List.map AV.str p)).ip 0]),(4,iA (i:Int)),(7,iA (↑(kysA K).length:Int)),(8,iA (i:Int))],h:=[]}),[ee],[b=true,MZ W 31 [.agg [sL 1 (List.map AV.str q2),bA b2],(sL 1 (List.map AV.str p)).ip 0] [] (.ret (bA b) []),cloHs [],(kysA K)[(i:Int).toNat]?=some (AV.agg [sL 1 (List.map AV.str q2),bA b2]),decide ((i:Int)<(↑(kysA K).length:Int))=true]):=kr
theorem b60_1 (W:World) (K:List (List (List UInt8)×Bool)) (p q2:List (List UInt8)) (i:Nat) (b b2:Bool):sQ W {lp:=true,ol:=true,tl:=[31]} 60 0 [] [0,1,4,7,8] (S60 K p i) [bt,aE 1,oS (.agg [sL 1 (List.map AV.str q2),bA b2]),ee,.lg,ee,cR (bA b) [],bf,ee]=.ok ((.normal,{t:=[(0,sL 2 (kysA K)),(1,.fn (Fn.func 31) [] [(sL 1 (List.map AV.str p)).ip 0]),(7,iA (↑(kysA K).length:Int)),(8,iA (IntKind.i64.wrap ((i:Int)+1)))],h:=[]}),[ee],[b=false,MZ W 31 [.agg [sL 1 (List.map AV.str q2),bA b2],(sL 1 (List.map AV.str p)).ip 0] [] (.ret (bA b) []),cloHs [],(kysA K)[(i:Int).toNat]?=some (AV.agg [sL 1 (List.map AV.str q2),bA b2]),decide ((i:Int)<(↑(kysA K).length:Int))=true]):=kr
theorem b60_2 (W:World) (K:List (List (List UInt8)×Bool)) (p:List (List UInt8)) (i:Nat):sQ W {lp:=true,ol:=true,tl:=[31]} 60 0 [] [0,1,4,7,8] (S60 K p i) [bf,ee]=.ok ((.exit 0,{t:=[(0,sL 2 (kysA K)),(1,.fn (Fn.func 31) [] [(sL 1 (List.map AV.str p)).ip 0]),(7,iA (↑(kysA K).length:Int)),(8,iA (i:Int))],h:=[]}),[ee],[decide ((i:Int)<(↑(kysA K).length:Int))=false]):=kr
theorem If_z1 {kp f ph σ σ'} (h:MatchK kp f ph σ σ':=by exact ⟨by rfl,(by simp only [zA,S13,E13,R13,S14,S62,R62,S32,E0e,clP,S60,sortA,tOK,List.map_cons,List.map_nil,and_true]<;>exact ztD),(by simp only [zA,S13,E13,R13,S14,S62,R62,S32,E0e,clP,S60,sortA,hOK,List.map_cons,List.map_nil,and_true]<;>exact zhD),(by simp only [zA,S13,E13,R13,S14,S62,R62,S32,E0e,clP,S60,sortA,liveT,List.map_cons,List.map_nil,and_true]<;>exact zv),(by simp only [zA,S13,E13,R13,S14,S62,R62,S32,E0e,clP,S60,sortA,liveH,List.map_cons,List.map_nil,and_true]<;>exact zv)⟩):MatchK kp f ph σ σ':=h
theorem If_z2 {cs} (h:Holds cs:=by simp only [Holds,cloHs,and_true]<;>and_intros<;>first|assumption|exact encVs_clo _|exact encV_clo _|exact decide_eq_true (by omega)|exact decide_eq_false (by omega)|omega|exact trivial|exact .inl trivial|(constructor<;>omega)|exact If_z1):Holds cs:=h
theorem z0_GV:GV z0:=⟨by decide,by simp [z0,tnV,tnVs]⟩
theorem key_GV (K:List (List (List UInt8)×Bool)) {d:JV} (i:Nat) (h:GV d):GV (keyV K d i):=by
 unfold keyV
 cases hk:K[i]? with
 | none=>exact z0_GV
 | some k =>
  simp only
  unfold keyO
  cases hj:pickO k.2 (candV k.1 d) with
  | none=>exact z0_GV
  | some j =>
   simp only
   have hl:=pickO_some hj
   obtain ⟨y,hy⟩:=getOf hl
   rw [List.getD_eq_getElem?_getD,hy]
   exact cand_GV k.1 d h y (List.mem_of_getElem? hy)
def kcI (K:List (List (List UInt8)×Bool)) (i:Nat) (x y:JV):Int:=match K[i]? with
 | some (_,true)=>- cmpF N0 (keyV K x i) (keyV K y i)
 | _=>cmpF N0 (keyV K x i) (keyV K y i)
def cmpK (K:List (List (List UInt8)×Bool)) (x y:Doc):Nat->Nat->Int
 | 0,_=>Lib.compareBytes x.id y.id
 | q+1,i=>if kcI K i x.v y.v=0 then cmpK K x y q (i+1) else kcI K i x.v y.v
def cmpD (K:List (List (List UInt8)×Bool)) (x y:Doc):Int:=cmpK K x y K.length 0
theorem kc_cmp (K:List (List (List UInt8)×Bool)) (i:Nat):Cmp3 fun x y:Doc=>kcI K i x.v y.v:=by
 have h:Cmp3 fun x y:Doc=>cmpF N0 (keyV K x.v i) (keyV K y.v i):=cmp_key (cmpF_cmp N0) fun x:Doc=>keyV K x.v i
 unfold kcI
 split
 ·exact cmp_neg h
 ·exact h
theorem cmpK_cmp (K:List (List (List UInt8)×Bool)):∀ q i,Cmp3 fun x y=>cmpK K x y q i
 | 0,i=>cmp_key cmpBy_cmp Doc.id
 | q+1,i=>cmp_lex (kc_cmp K i) (cmpK_cmp K q (i+1))
theorem cmpD_cmp (K:List (List (List UInt8)×Bool)):Cmp3 (cmpD K):=cmpK_cmp K _ _
theorem cmpK_zero (K:List (List (List UInt8)×Bool)) (x y:Doc):∀ q i,cmpK K x y q i=0->x.id=y.id
 | 0,i,h=>(cmpB_less x.id y.id).2.1.1 h
 | q+1,i,h=>by
  rw [cmpK] at h
  split at h
  ·exact cmpK_zero K x y q (i+1) h
  ·exact absurd h (by assumption)
theorem call13k:callable Tryz.prog 13=true:=kr
theorem call37:callable Tryz.prog 37=true:=kr
theorem kys_clo (K:List (List (List UInt8)×Bool)):cloL (kysA K)=true:=by
 unfold kysA
 induction K with
 | nil=>rfl
 | cons k K ih=>rw [List.map_cons,cloL,ih,Bool.and_true];unfold keyA;simp only [AV.clo,cloL,cloL_str,Bool.true_and,Bool.and_true];rfl
theorem rks_clo (K:List (List (List UInt8)×Bool)):cloL (rksA K)=true:=by
 unfold rksA
 induction K with
 | nil=>rfl
 | cons k K ih=>rw [List.map_cons,cloL,ih,Bool.and_true];unfold rkyA;simp only [AV.clo,cloL,cloL_str,Bool.true_and,Bool.and_true];rfl
theorem loop13 (W:World) (K:List (List (List UInt8)×Bool)) (x y:Doc) (hx:GV x.v) (hy:GV y.v) (hK:K.length<=2 ^ 40):∀ (q i:Nat),K.length - i=q->i<=K.length →
 (cmpK K x y q i=Lib.compareBytes x.id y.id/\LoopC Tryz.prog W [] (nslots Tryz.prog 13) (loopOf Tryz.prog 13 0) (S13 K x y i) (.exit 0) (E13 x y))\/LoopC Tryz.prog W [] (nslots Tryz.prog 13) (loopOf Tryz.prog 13 0) (S13 K x y i) .ret (R13 (cmpK K x y q i)):=by
 have hkl:=kys_len K
 intro q
 induction q with
 | zero =>
  intro i hq hi
  refine .inl ⟨rfl,?_⟩
  clear hx hy
  obtain ⟨ix,vx,⟨hx,lx⟩⟩:=x
  obtain ⟨iy,vy,⟨hy,ly⟩⟩:=y
  exact loop_last (by simp) (body_of_sbodyK mixedz (b13t_2 W K hx hy lx ly ix iy vx vy i) If_z2 [] [] If_z1)
 | succ q ih =>
  intro i hq hi
  obtain ⟨k,hk⟩:=getOf (l:=K) (i:=i) (by omega)
  have hget:=kys_get hk
  have hws:IntKind.i64.wrap ((i:Int)+1)=((i+1:Nat):Int):=wrap_succ (by omega)
  have ha:=mut_of_pure (by simp only [cloL,sortA,AV.clo,kys_clo,encV_clo,Bool.and_self]<;>rfl) (key21 W K x.v i hx.1)
  have hb:=mut_of_pure (by simp only [cloL,sortA,AV.clo,kys_clo,encV_clo,Bool.and_self]<;>rfl) (key21 W K y.v i hy.1)
  have hc:=cmp36 W (keyV K x.v i) (keyV K y.v i) (key_GV K i hx).1
  have hr:=(cmpF_cmp N0).rng (keyV K x.v i) (keyV K y.v i)
  have hkc:kcI K i x.v y.v=if k.2 then - cmpF N0 (keyV K x.v i) (keyV K y.v i) else cmpF N0 (keyV K x.v i) (keyV K y.v i):=by
   unfold kcI;rw [hk];obtain ⟨p,d⟩:=k;cases d<;>rfl
  have nx:=ih (i+1) (by omega) (by omega)
  rw [cmpK,hkc]
  clear hx hy
  generalize keyV K x.v i=A at *
  generalize keyV K y.v i=B at *
  generalize cmpF N0 A B=z at *
  obtain ⟨hA,lA⟩:=A
  obtain ⟨hB,lB⟩:=B
  generalize cmpK K x y q (i+1)=r at *
  obtain ⟨ix,vx,⟨hx,lx⟩⟩:=x
  obtain ⟨iy,vy,⟨hy,ly⟩⟩:=y
  obtain ⟨p,d⟩:=k
  cases d with
  | true =>
   have hw:IntKind.i64.wrap (0 - z)=- z:=by rcases hr with h|h|h<;>rw [h]<;>rfl
   by_cases h0:- z=0
   ·have c1:(!decide (IntKind.i64.wrap (0 - z)=0))=false:=by rw [hw,decide_eq_true h0];rfl
    rw [if_pos (by exact h0)]
    have st:∀ e σ,LoopC Tryz.prog W [] (nslots Tryz.prog 13) (loopOf Tryz.prog 13 0) (S13 K ⟨ix,vx,.mk hx lx⟩ ⟨iy,vy,.mk hy ly⟩ (i+1)) e σ->LoopC Tryz.prog W [] (nslots Tryz.prog 13) (loopOf Tryz.prog 13 0) (S13 K ⟨ix,vx,.mk hx lx⟩ ⟨iy,vy,.mk hy ly⟩ i) e σ:=fun e σ n1 =>
     loop_next (body_of_sbodyK mixedz (b13t_1 W K hx hy hA hB lx ly lA lB p ix iy vx vy i z) (by clear nx ih n1;exact If_z2) [] [] (σ3:=S13 K ⟨ix,vx,.mk hx lx⟩ ⟨iy,vy,.mk hy ly⟩ (i+1)) (by clear nx ih n1;exact If_z1)) n1
    rcases nx with ⟨n1,n2⟩|n2
    ·exact .inl ⟨n1,st _ _ n2⟩
    ·exact .inr (st _ _ n2)
   ·have c1:(!decide (IntKind.i64.wrap (0 - z)=0))=true:=by rw [hw,decide_eq_false h0];rfl
    rw [if_neg (by exact h0)]
    refine .inr ?_
    show LoopC _ _ _ _ _ _ _ (R13 (- z))
    rw [<-hw]
    exact loop_last (by simp) (body_of_sbodyK mixedz (b13t_0 W K hx hy hA hB lx ly lA lB p ix iy vx vy i z) (by clear nx ih;exact If_z2) [] [] (by clear nx ih;exact If_z1))
  | false =>
   by_cases h0:z=0
   ·have c1:(!decide (z=0))=false:=by rw [decide_eq_true h0];rfl
    rw [if_pos (by exact h0)]
    have st:∀ e σ,LoopC Tryz.prog W [] (nslots Tryz.prog 13) (loopOf Tryz.prog 13 0) (S13 K ⟨ix,vx,.mk hx lx⟩ ⟨iy,vy,.mk hy ly⟩ (i+1)) e σ->LoopC Tryz.prog W [] (nslots Tryz.prog 13) (loopOf Tryz.prog 13 0) (S13 K ⟨ix,vx,.mk hx lx⟩ ⟨iy,vy,.mk hy ly⟩ i) e σ:=fun e σ n1 =>
     loop_next (body_of_sbodyK mixedz (b13f_1 W K hx hy hA hB lx ly lA lB p ix iy vx vy i z) (by clear nx ih n1;exact If_z2) [] [] (σ3:=S13 K ⟨ix,vx,.mk hx lx⟩ ⟨iy,vy,.mk hy ly⟩ (i+1)) (by clear nx ih n1;exact If_z1)) n1
    rcases nx with ⟨n1,n2⟩|n2
    ·exact .inl ⟨n1,st _ _ n2⟩
    ·exact .inr (st _ _ n2)
   ·have c1:(!decide (z=0))=true:=by rw [decide_eq_false h0];rfl
    rw [if_neg (by exact h0)]
    exact .inr (loop_last (by simp) (body_of_sbodyK mixedz (b13f_0 W K hx hy hA hB lx ly lA lB p ix iy vx vy i z) (by clear nx ih;exact If_z2) [] [] (by clear nx ih;exact If_z1)))
theorem compare13 (W:World) (K:List (List (List UInt8)×Bool)) (x y:Doc) (hx:GV x.v) (hy:GV y.v) (hK:K.length<=2 ^ 40):MutC Tryz.prog W 13 [sortA K,docA x,docA y] [] (.ret (iA (cmpD K x y)) []):=by
 have hl:=loop13 W K x y hx hy hK K.length 0 rfl (by omega)
 have h37:MutC Tryz.prog W 37 [.str x.id,.str y.id] [] (.ret (iA (Lib.compareBytes x.id y.id)) []):=by
  have e:cmpB x.id y.id=Lib.compareBytes x.id y.id:=Lib.cmp_eq _ _
  rw [<-e]
  exact mut_of_sfun mixedz call37 rfl (p37_0 W x.id y.id) trivial
 unfold cmpD
 rcases hl with ⟨h1,h2⟩|h2
 ·rw [h1]
  generalize Lib.compareBytes x.id y.id=z at *
  clear hx hy
  obtain ⟨ix,vx,⟨hx,lx⟩⟩:=x
  obtain ⟨iy,vy,⟨hy,ly⟩⟩:=y
  exact mut_of_sfun mixedz call13k rfl (p13_0 W K hx hy lx ly ix iy vx vy z) If_z2
 ·generalize cmpK K x y K.length 0=z at *
  clear hx hy
  obtain ⟨ix,vx,⟨hx,lx⟩⟩:=x
  obtain ⟨iy,vy,⟨hy,ly⟩⟩:=y
  exact mut_of_sfun mixedz call13k rfl (q13_0 W K hx hy lx ly ix iy vx vy z) If_z2
end De
end Go.Ac

