/- What is proved: contracts of functions of this translation, walked; their plain meaning. No condition beyond those that each theorem names. -/
import Derived.Test.YtdalodgajiodhaaGreatDoorIHZq
import Derived.Test.YtdalodgajiodhaaGreatDoorMa6
import Derived.Test.YtdalodgajiodhaaGreatDoorProg
set_option linter.all false
namespace Go.Ac
open Go Go.Proofs
set_option maxRecDepth 10000
set_option maxHeartbeats 1000000
theorem mixedz:Tryz.prog.follows .mixedOrders=true:=kr
section
variable (W:World) (s:List UInt8)
end
end Go.Ac

namespace Go.Ac
section
variable {α:Type} (lt:α->α->Bool)
def insS (x:α):List α->List α
 | []=>[x]
 | y::l=>if lt y x=true then y::insS x l else x::y::l
def sortS:List α->List α
 | []=>[]
 | x::l=>insS lt x (sortS l)
def mgS:List α->List α->List α
 | [],R=>R
 | x::L,[]=>x::L
 | x::L,y::R=>if lt y x=true then y::mgS (x::L) R else x::mgS L (y::R)
termination_by L R=>L.length+R.length
structure SWO:Prop where
 asym:∀ x y,lt x y=true->lt y x=false
 ntr:∀ x y z,lt x y=false->lt y z=false->lt x z=false
def srtd (l:List α):Prop:=l.Pairwise fun x y=>lt y x=false
variable {lt}
theorem mg_nil (L:List α):mgS lt L []=L:=by cases L<;>rw [mgS]
theorem nil_mg (R:List α):mgS lt [] R=R:=by rw [mgS]
theorem mg_cons (x y:α) (L R:List α):mgS lt (x::L) (y::R)=if lt y x=true then y::mgS lt (x::L) R else x::mgS lt L (y::R):=by rw [mgS]
theorem mg_len:∀ (L R:List α),(mgS lt L R).length=L.length+R.length
 | [],R=>by rw [nil_mg];simp
 | x::L,[]=>by rw [mg_nil];simp
 | x::L,y::R=>by
  rw [mg_cons]
  split
  ·rw [List.length_cons,mg_len (x::L) R];simp only [List.length_cons];omega
  ·rw [List.length_cons,mg_len L (y::R)];simp only [List.length_cons];omega
termination_by L R=>L.length+R.length
theorem ins_len (x:α):∀ l:List α,(insS lt x l).length=l.length+1
 | []=>rfl
 | y::l=>by rw [insS];split<;>simp [ins_len x l]
theorem sort_len:∀ l:List α,(sortS lt l).length=l.length
 | []=>rfl
 | x::l=>by rw [sortS,ins_len,sort_len l];rfl
theorem SWO.tr (h:SWO lt) {x y z:α} (h1:lt x y=true) (h2:lt y z=true):lt x z=true:=by
 cases e:lt x z with
 | true=>rfl
 | false=>rw [h.ntr x z y e (h.asym _ _ h2)] at h1;cases h1
theorem SWO.lt_of_lt_le (h:SWO lt) {x y z:α} (h1:lt x y=true) (h2:lt z y=false):lt x z=true:=by
 cases e:lt x z with
 | true=>rfl
 | false=>rw [h.ntr x z y e h2] at h1;cases h1
theorem SWO.lt_of_le_lt (h:SWO lt) {x y z:α} (h1:lt y x=false) (h2:lt y z=true):lt x z=true:=by
 cases e:lt x z with
 | true=>rfl
 | false=>rw [h.ntr y x z h1 e] at h2;cases h2
theorem ins_mg (h:SWO lt) (x:α):∀ (L R:List α),insS lt x (mgS lt L R)=mgS lt (insS lt x L) R
 | [],[]=>by rw [mg_nil,mg_nil]
 | [],z::R=>by
  rw [nil_mg,insS,insS,mg_cons]
  split
  ·have:=ins_mg h x [] R
   rw [nil_mg,insS] at this
   rw [this]
  ·rw [nil_mg]
 | y::L,[]=>by rw [mg_nil,mg_nil]
 | y::L,z::R=>by
  rw [mg_cons]
  by_cases h1:lt z y=true
  ·have ih:=ins_mg h x (y::L) R
   rw [if_pos h1,insS,insS]
   by_cases h2:lt y x=true
   ·rw [if_pos (h.tr h1 h2),if_pos h2,mg_cons,if_pos h1,ih,insS,if_pos h2]
   ·rw [if_neg h2,mg_cons,ih,insS,if_neg h2,mg_cons,if_pos h1]
  ·rw [if_neg h1,insS,insS]
   by_cases h2:lt y x=true
   ·rw [if_pos h2,if_pos h2,ins_mg h x L (z::R),mg_cons,if_neg h1]
   ·have h3:¬ lt z x=true:=by
     rw [h.ntr z y x (by simpa using h1) (by simpa using h2)];simp
    rw [if_neg h2,if_neg h2,mg_cons,if_neg h3,mg_cons,if_neg h1]
termination_by L R=>L.length+R.length
theorem sort_app (h:SWO lt) (B:List α):∀ A:List α,sortS lt (A++B)=mgS lt (sortS lt A) (sortS lt B)
 | []=>by rw [List.nil_append,sortS,nil_mg]
 | x::A=>by rw [List.cons_append,sortS,sort_app h B A,sortS,ins_mg h]
theorem ins_mem (x:α):∀ (l:List α) (z:α),z ∈ insS lt x l ↔ z=x\/z ∈ l
 | [],z=>by simp [insS]
 | y::l,z=>by
  rw [insS]
  split
  ·simp only [List.mem_cons,ins_mem x l z]
   constructor
   ·rintro (h|h|h)<;>simp [h]
   ·rintro (h|h|h)<;>simp [h]
  ·simp
theorem ins_srtd (h:SWO lt) (x:α):∀ l:List α,srtd lt l->srtd lt (insS lt x l)
 | [],_=>by simp [insS,srtd]
 | y::l,hs=>by
  unfold srtd at hs ⊢
  rw [List.pairwise_cons] at hs
  rw [insS]
  split
  ·rename_i h1
   rw [List.pairwise_cons]
   refine ⟨fun z hz=>?_,ins_srtd h x l hs.2⟩
   rcases (ins_mem x l z).1 hz with rfl|hz
   ·exact h.asym _ _ h1
   ·exact hs.1 z hz
  ·rename_i h1
   have h1':lt y x=false:=by simpa using h1
   rw [List.pairwise_cons,List.pairwise_cons]
   refine ⟨fun z hz=>?_,hs⟩
   rcases List.mem_cons.1 hz with rfl|hz
   ·exact h1'
   ·exact h.ntr _ _ _ (hs.1 z hz) h1'
theorem sort_srtd (h:SWO lt):∀ l:List α,srtd lt (sortS lt l)
 | []=>List.Pairwise.nil
 | x::l=>ins_srtd h x _ (sort_srtd h l)
theorem mg_split:∀ (L1 R1 L2 R2:List α),(∀ x ∈ R1,∀ y ∈ L2,lt x y=true)->(∀ x ∈ R2,∀ y ∈ L1,lt x y=false)->mgS lt (L1++L2) (R1++R2)=mgS lt L1 R1++mgS lt L2 R2
 | [],[],L2,R2,_,_=>by rw [mg_nil];rfl
 | [],r::R1,[],R2,_,_=>by rw [List.append_nil,nil_mg,nil_mg,nil_mg]
 | [],r::R1,y::L2,R2,h1,h2=>by
  rw [List.nil_append,List.cons_append,mg_cons,if_pos (h1 r (by simp) y (by simp)),nil_mg]
  have:=mg_split [] R1 (y::L2) R2 (fun a ha=>h1 a (by simp [ha])) (fun a ha b hb=>by cases hb)
  rw [List.nil_append,nil_mg] at this
  rw [this];rfl
 | x::L1,[],L2,[],_,_=>by rw [List.append_nil,mg_nil,mg_nil,mg_nil]
 | x::L1,[],L2,z::R2,h1,h2=>by
  have hz:=h2 z (by simp) x (by simp)
  rw [List.nil_append,List.cons_append,mg_cons,if_neg (by rw [hz];simp),mg_nil]
  have:=mg_split L1 [] L2 (z::R2) (fun a ha=>by cases ha) (fun a ha b hb=>h2 a ha b (by simp [hb]))
  rw [List.nil_append,mg_nil] at this
  rw [this];rfl
 | x::L1,r::R1,L2,R2,h1,h2=>by
  rw [List.cons_append,List.cons_append,mg_cons,mg_cons]
  split
  ·have:=mg_split (x::L1) R1 L2 R2 (fun a ha=>h1 a (by simp [ha])) h2
   rw [List.cons_append] at this
   rw [this];rfl
  ·have:=mg_split L1 (r::R1) L2 R2 h1 (fun a ha b hb=>h2 a ha b (by simp [hb]))
   rw [List.cons_append] at this
   rw [this];rfl
termination_by L1 R1=>L1.length+R1.length
theorem srtd_app {A B:List α} (h:srtd lt (A++B)):srtd lt A/\srtd lt B/\∀ a ∈ A,∀ b ∈ B,lt b a=false:=List.pairwise_append.1 h
theorem mg_ahead (T:List α) (y:α) (h:∀ x ∈ T,lt y x=false):mgS lt T [y]=T++[y]:=by
 have:=mg_split (lt:=lt) T [] [] [y] (fun a ha=>by cases ha) (fun a ha b hb=>by rw [List.mem_singleton.1 ha];exact h b hb)
 rw [List.append_nil,List.nil_append,mg_nil,nil_mg] at this
 exact this
theorem mg_last (T:List α) (t y:α) (h:lt y t=true):mgS lt (T++[t]) [y]=mgS lt T [y]++[t]:=by
 have:=mg_split (lt:=lt) T [y] [t] [] (fun a ha b hb=>by rw [List.mem_singleton.1 ha,List.mem_singleton.1 hb];exact h) (fun a ha=>by cases ha)
 rw [List.append_nil,mg_nil] at this
 exact this
theorem sort_one (y:α):sortS lt [y]=[y]:=rfl
theorem sort_snoc (h:SWO lt) (A:List α) (y:α):sortS lt (A++[y])=mgS lt (sortS lt A) [y]:=by rw [sort_app h,sort_one]
inductive ChS (lt:α->α->Bool) (bs:Nat):List α->List α->Prop
 | last (D:List α):D.length<=bs->ChS lt bs D (sortS lt D)
 | more (A:List α) {B B':List α}:A.length=bs->ChS lt bs B B'->ChS lt bs (A++B) (sortS lt A++B')
theorem ChS.len {bs:Nat} {D D':List α} (h:ChS lt bs D D'):D'.length=D.length:=by
 induction h with
 | last D _=>exact sort_len D
 | more A hA _ ih=>rw [List.length_append,List.length_append,sort_len,ih]
theorem ChS.small {bs:Nat} {D D':List α} (h:ChS lt bs D D') (hD:D.length<=bs):D'=sortS lt D:=by
 cases h with
 | last _ _=>rfl
 | more A hA hB =>
  rename_i B B'
  have hl:=hB.len
  rw [List.length_append] at hD
  have:B=[]:=List.length_eq_zero_iff.1 (by omega)
  subst this
  have:B'=[]:=List.length_eq_zero_iff.1 (by simpa using hl)
  subst this
  rw [List.append_nil,List.append_nil]
end
end Go.Ac

namespace Go.Ac
section
variable {α:Type} (lt:α->α->Bool)
def swapL (D:List α) (i j:Nat):List α:=match D[i]?,D[j]? with|some x,some y=>(D.set i y).set j x|_,_=>D
def ltAt (D:List α) (i j:Nat):Bool:=match D[i]?,D[j]? with|some x,some y=>lt x y|_,_=>false
def insJ (a:Nat):Nat->List α->List α
 | 0,D=>D
 | j+1,D=>if a<j+1/\ltAt lt D (j+1) j=true then insJ a j (swapL D (j+1) j) else D
def insO (a:Nat):Nat->Nat->List α->List α
 | 0,_,D=>D
 | k+1,i,D=>insO a k (i+1) (insJ lt a i D)
def swpG (a b:Nat):Nat->Nat->List α->List α
 | 0,_,D=>D
 | k+1,i,D=>swpG a b k (i+1) (swapL D (a+i) (b+i))
def rotG (m:Nat):Nat->Nat->Nat->List α->List α
 | 0,_,_,D=>D
 | f+1,i,j,D=>if i=j then swpG (m - i) m i 0 D else if j<i then rotG m f (i - j) j (swpG (m - i) m j 0 D) else rotG m f i (j - i) (swpG (m - i) (m+j - i) i 0 D)
def bsG (p:Nat->Bool):Nat->Nat->Nat->Nat
 | 0,i,_=>i
 | f+1,i,j=>if i<j then (if p ((i+j) / 2)=true then bsG p f ((i+j) / 2+1) j else bsG p f i ((i+j) / 2)) else i
def upG:Nat->Nat->List α->List α
 | 0,_,D=>D
 | k+1,i,D=>upG k (i+1) (swapL D i (i+1))
def dnG:Nat->Nat->List α->List α
 | 0,_,D=>D
 | k+1,i,D=>dnG k (i - 1) (swapL D i (i - 1))
def symM:Nat->Nat->Nat->Nat->List α->List α
 | 0,_,_,_,D=>D
 | f+1,a,m,b,D =>
  if m - a=1 then upG (bsG (fun h=>ltAt lt D h a) b m b - 1 - a) a D
  else if b - m=1 then dnG (m - bsG (fun h=>!ltAt lt D m h) b a m) m D
  else
   let mid:=(a+b) / 2
   let n:=mid+m
   let st:=bsG (fun c=>!ltAt lt D (n - 1 - c) c) b (if mid<m then n - b else a) (if mid<m then mid else m)
   let en:=n - st
   let D1:=if st<m/\m<en then rotG m b (m - st) (en - m) D else D
   let D2:=if a<st/\st<mid then symM f a st mid D1 else D1
   if mid<en/\en<b then symM f mid en b D2 else D2
def blkG (n:Nat):Nat->Nat->List α->Nat×List α
 | 0,a,D=>(a,D)
 | f+1,a,D=>if a+20<=n then blkG n f (a+20) (insO lt a (20 - 1) (a+1) D) else (a,D)
def mrgG (n bs:Nat):Nat->Nat->List α->Nat×List α
 | 0,a,D=>(a,D)
 | f+1,a,D=>if a+2 * bs<=n then mrgG n bs f (a+2 * bs) (symM lt n a (a+bs) (a+2 * bs) D) else (a,D)
def lvlG (n bs:Nat) (D:List α):List α :=
 let r:=mrgG lt n bs n 0 D
 if r.1+bs<n then symM lt n r.1 (r.1+bs) n r.2 else r.2
def mrgO (n:Nat):Nat->Nat->List α->List α
 | 0,_,D=>D
 | f+1,bs,D=>if bs<n then mrgO n f (bs * 2) (lvlG lt n bs D) else D
def stabG (D:List α):List α :=
 let r:=blkG lt D.length D.length 0 D
 mrgO lt D.length D.length 20 (insO lt r.1 (D.length - (r.1+1)) (r.1+1) r.2)
variable {lt}
theorem swapL_len (D:List α) (i j:Nat):(swapL D i j).length=D.length:=by unfold swapL;split<;>simp
theorem get_mid {P S:List α} {x:α} {i:Nat} (h:i=P.length):(P++x::S)[i]?=some x:=by subst h;simp
theorem set_mid {P S:List α} {x y:α} {i:Nat} (h:i=P.length):(P++x::S).set i y=P++y::S:=by subst h;simp
theorem swap_mid {P Q S:List α} {x y:α} {i j:Nat} (hi:i=P.length) (hj:j=P.length+1+Q.length):swapL (P++x::(Q++y::S)) i j=P++y::(Q++x::S):=by
 have h1:(P++x::(Q++y::S))[i]?=some x:=get_mid hi
 have e:∀ z,P++z::(Q++y::S)=(P++z::Q)++y::S:=fun z=>by simp
 have hl:∀ z,(P++z::Q).length=P.length+1+Q.length:=fun z=>by simp only [List.length_append,List.length_cons];omega
 have h2:(P++x::(Q++y::S))[j]?=some y:=by rw [e];exact get_mid (by rw [hl];exact hj)
 unfold swapL
 rw [h1,h2]
 simp only
 rw [set_mid hi,e,set_mid (by rw [hl];exact hj)]
 simp
theorem swap_flip {P Q S:List α} {x y:α} {i j:Nat} (hi:i=P.length) (hj:j=P.length+1+Q.length):swapL (P++x::(Q++y::S)) j i=P++y::(Q++x::S):=by
 have h1:(P++x::(Q++y::S))[i]?=some x:=get_mid hi
 have e:∀ z,P++z::(Q++y::S)=(P++z::Q)++y::S:=fun z=>by simp
 have hl:∀ z,(P++z::Q).length=P.length+1+Q.length:=fun z=>by simp only [List.length_append,List.length_cons];omega
 have h2:(P++x::(Q++y::S))[j]?=some y:=by rw [e];exact get_mid (by rw [hl];exact hj)
 unfold swapL
 rw [h1,h2]
 simp only
 have e2:(P++x::Q)++x::S=P++x::(Q++x::S):=by simp
 rw [e,set_mid (by rw [hl];exact hj),e2,set_mid hi]
theorem ltAt_eq {D:List α} {i j:Nat} {x y:α} (hx:D[i]?=some x) (hy:D[j]?=some y):ltAt lt D i j=lt x y:=by unfold ltAt;rw [hx,hy]
theorem insJ_ok (h:SWO lt):∀ (n:Nat) (P T S:List α) (y:α) (a j:Nat),T.length=n->a=P.length->j=a+T.length->srtd lt T->insJ lt a j (P++(T++y::S))=P++(mgS lt T [y]++S):=by
 intro n
 induction n with
 | zero =>
  intro P T S y a j hn ha hj _
  obtain rfl:=List.length_eq_zero_iff.1 hn
  simp only [List.length_nil,Nat.add_zero] at hj
  rw [nil_mg]
  cases j with
  | zero=>rw [insJ];rfl
  | succ j=>rw [insJ,if_neg (by omega)];rfl
 | succ n ih =>
  intro P T S y a j hn ha hj hs
  obtain ⟨T',t,rfl⟩:∃ T' t,T=T'++[t]:=by
   rcases List.eq_nil_or_concat T with rfl|⟨T',t,rfl⟩
   ·simp at hn
   ·exact ⟨T',t,by simp⟩
  have hl:(T'++[t]).length=T'.length+1:=by simp
  rw [hl] at hn hj
  obtain ⟨j,rfl⟩:∃ k,j=k+1:=⟨j - 1,by omega⟩
  have e:P++((T'++[t])++y::S)=(P++T')++t::([]++y::S):=by simp
  have hpl:(P++T').length=a+T'.length:=by simp;omega
  have g1:((P++T')++t::([]++y::S))[j]?=some t:=get_mid (by omega)
  have g2:((P++T')++t::([]++y::S))[j+1]?=some y:=by
   rw [show (P++T')++t::([]++y::S)=((P++T')++[t])++y::S by simp]
   exact get_mid (by simp;omega)
  have hsT:=srtd_app hs
  rw [insJ,e,ltAt_eq g2 g1]
  by_cases hlt:lt y t=true
  ·rw [if_pos ⟨by omega,hlt⟩,swap_flip (by omega) (by simp;omega)]
   rw [show P++T'++y::([]++t::S)=P++(T'++y::(t::S)) by simp]
   rw [ih P T' (t::S) y a j (by omega) ha (by omega) hsT.1,mg_last T' t y hlt]
   simp
  ·rw [if_neg (by rintro ⟨_,q⟩;exact hlt q)]
   rw [mg_ahead]
   ·simp
   ·intro x hx
    have hyt:lt y t=false:=by simpa using hlt
    rcases List.mem_append.1 hx with hx|hx
    ·have:=hsT.2.2 x hx t (by simp)
     exact h.ntr y t x hyt this
    ·rw [List.mem_singleton.1 hx];exact hyt
theorem insO_ok (h:SWO lt) (S:List α) (P:List α) (a:Nat) (ha:a=P.length):∀ (X A:List α) (i:Nat),i=a+A.length->insO lt a X.length i (P++(sortS lt A++(X++S)))=P++(sortS lt (A++X)++S)
 | [],A,i,hi=>by rw [List.length_nil,insO,List.append_nil];rfl
 | y::X,A,i,hi=>by
  rw [List.length_cons,insO]
  have:=insJ_ok h _ P (sortS lt A) (X++S) y a i rfl ha (by rw [sort_len];exact hi) (sort_srtd h A)
  rw [List.cons_append,this,<-sort_snoc h]
  have:=insO_ok h S P a ha X (A++[y]) (i+1) (by rw [List.length_append];simp;omega)
  rw [this]
  simp
theorem ins_blk (h:SWO lt) (P X S:List α) (a k i:Nat) (ha:a=P.length) (hk:k=X.length - 1) (hi:i=a+1):insO lt a k i (P++(X++S))=P++(sortS lt X++S):=by
 cases X with
 | nil=>simp only [List.length_nil,Nat.zero_sub] at hk;subst hk;rw [insO];rfl
 | cons x X =>
  have:=insO_ok h S P a ha X [x] i (by simpa using hi)
  simp only [List.length_cons,Nat.add_sub_cancel] at hk
  rw [hk]
  simpa [sort_one] using this
theorem swpG_ok (S:List α):∀ (X Y P Q:List α) (a b i:Nat),X.length=Y.length->a+i=P.length->b+i=P.length+X.length+Q.length->swpG a b X.length i (P++(X++(Q++(Y++S))))=P++(Y++(Q++(X++S)))
 | [],Y,P,Q,a,b,i,hl,ha,hb=>by
  obtain rfl:Y=[]:=List.length_eq_zero_iff.1 hl.symm
  rw [List.length_nil,swpG]
 | x::X,[],P,Q,a,b,i,hl,ha,hb=>by cases hl
 | x::X,y::Y,P,Q,a,b,i,hl,ha,hb=>by
  rw [List.length_cons,swpG]
  simp only [List.length_cons] at hl hb
  have e:P++((x::X)++(Q++((y::Y)++S)))=P++x::((X++Q)++y::(Y++S)):=by simp
  rw [e,swap_mid ha (by rw [List.length_append];omega)]
  have:=swpG_ok S X Y (P++[y]) (Q++[x]) a b (i+1) (by omega) (by rw [List.length_append];simp;omega) (by rw [List.length_append,List.length_append];simp;omega)
  rw [show P++y::(X++Q++x::(Y++S))=(P++[y])++(X++((Q++[x])++(Y++S))) by simp,this]
  simp
theorem take_drop_len {U:List α} {n:Nat} (h:n<=U.length):∃ A B,U=A++B/\A.length=n/\B.length=U.length - n:=⟨U.take n,U.drop n,(List.take_append_drop n U).symm,by simp;omega,by simp⟩
theorem rotG_ok (m:Nat):∀ (f:Nat) (P U V S:List α) (i j:Nat),i=U.length->j=V.length->m=P.length+i->0<i->0<j->i+j<=f+1->0<f->rotG m f i j (P++(U++(V++S)))=P++(V++(U++S)):=by
 intro f
 induction f with
 | zero=>intro P U V S i j _ _ _ _ _ _ h;omega
 | succ f ih =>
  intro P U V S i j hi hj hm h0 h1 hf _
  rw [rotG]
  by_cases e:i=j
  ·rw [if_pos e]
   have:=swpG_ok S U V P [] (m - i) m 0 (by omega) (by omega) (by simp;omega)
   rw [<-hi] at this
   simpa using this
  ·rw [if_neg e]
   by_cases e2:j<i
   ·rw [if_pos e2]
    obtain ⟨A,B,rfl,hA,hB⟩:=take_drop_len (U:=U) (n:=j) (by omega)
    rw [List.length_append] at hi hB
    have:=swpG_ok S A V P B (m - i) m 0 (by omega) (by omega) (by simp;omega)
    rw [hA] at this
    rw [show P++((A++B)++(V++S))=P++(A++(B++(V++S))) by simp,this]
    have:=ih (P++V) B A S (i - j) j (by omega) (by omega) (by rw [List.length_append];omega) (by omega) (by omega) (by omega) (by omega)
    rw [show P++(V++(B++(A++S)))=(P++V)++(B++(A++S)) by simp,this]
    simp
   ·rw [if_neg e2]
    obtain ⟨A,B,rfl,hA,hB⟩:=take_drop_len (U:=V) (n:=j - i) (by omega)
    rw [List.length_append] at hj hB
    have:=swpG_ok S U B P A (m - i) (m+j - i) 0 (by omega) (by omega) (by omega)
    rw [<-hi] at this
    rw [show P++(U++((A++B)++S))=P++(U++(A++(B++S))) by simp,this]
    have:=ih P B A (U++S) i (j - i) (by omega) (by omega) (by omega) (by omega) (by omega) (by omega) (by omega)
    rw [this]
    simp
theorem bsG_ok (p:Nat->Bool):∀ (f i j:Nat),j<=f+i->i<=j->∃ k,bsG p f i j=k/\i<=k/\k<=j/\(k<j->p k=false)/\(i<k->p (k - 1)=true):=by
 intro f
 induction f with
 | zero=>intro i j h1 h2;exact ⟨i,rfl,Nat.le_refl _,h2,fun h=>by omega,fun h=>by omega⟩
 | succ f ih =>
  intro i j h1 h2
  rw [bsG]
  by_cases h:i<j
  ·rw [if_pos h]
   by_cases q:p ((i+j) / 2)=true
   ·rw [if_pos q]
    obtain ⟨k,g1,g2,g3,g4,g5⟩:=ih ((i+j) / 2+1) j (by omega) (by omega)
    refine ⟨k,g1,by omega,g3,g4,fun hk=>?_⟩
    by_cases hh:(i+j) / 2+1<k
    ·exact g5 hh
    ·have:k - 1=(i+j) / 2:=by omega
     rw [this];exact q
   ·rw [if_neg q]
    obtain ⟨k,g1,g2,g3,g4,g5⟩:=ih i ((i+j) / 2) (by omega) (by omega)
    refine ⟨k,g1,g2,by omega,fun hk=>?_,g5⟩
    by_cases hh:k<(i+j) / 2
    ·exact g4 hh
    ·have:k=(i+j) / 2:=by omega
     rw [this];simpa using q
  ·rw [if_neg h]
   exact ⟨i,rfl,Nat.le_refl _,h2,fun h'=>by omega,fun h'=>by omega⟩
theorem upG_ok (x:α) (S:List α):∀ (A P:List α) (i:Nat),i=P.length->upG A.length i (P++x::(A++S))=P++(A++x::S)
 | [],P,i,hi=>by rw [List.length_nil,upG];rfl
 | y::A,P,i,hi=>by
  rw [List.length_cons,upG]
  have:swapL (P++x::((y::A)++S)) i (i+1)=P++y::x::(A++S):=by
   have:=swap_mid (P:=P) (Q:=[]) (S:=A++S) (x:=x) (y:=y) (i:=i) (j:=i+1) hi (by simp;omega)
   simpa using this
  rw [this,show P++y::x::(A++S)=(P++[y])++x::(A++S) by simp,upG_ok x S A (P++[y]) (i+1) (by simp;omega)]
  simp
theorem dnG_ok (x:α) (P:List α):∀ (n:Nat) (A S:List α) (i:Nat),A.length=n->i=P.length+A.length->dnG n i (P++(A++x::S))=P++x::(A++S):=by
 intro n
 induction n with
 | zero =>
  intro A S i h _
  obtain rfl:=List.length_eq_zero_iff.1 h
  rw [dnG];rfl
 | succ n ih =>
  intro A S i h hi
  obtain ⟨A',t,rfl⟩:∃ T' t,A=T'++[t]:=by
   rcases List.eq_nil_or_concat A with rfl|⟨T',t,rfl⟩
   ·simp at h
   ·exact ⟨T',t,by simp⟩
  have hl:(A'++[t]).length=A'.length+1:=by simp
  rw [hl] at h hi
  rw [dnG]
  have:swapL (P++((A'++[t])++x::S)) i (i - 1)=P++(A'++x::(t::S)):=by
   have:=swap_flip (P:=P++A') (Q:=[]) (S:=S) (x:=t) (y:=x) (i:=i - 1) (j:=i) (by simp;omega) (by simp;omega)
   simpa using this
  rw [this,ih A' (t::S) (i - 1) (by omega) (by omega)]
  simp
end
end Go.Ac

namespace Go.Ac
section
variable {α:Type} {lt:α->α->Bool}
theorem last_of {l:List α} (h:l ≠ []):∃ A t,l=A++[t]:=by
 rcases List.eq_nil_or_concat l with rfl|⟨A,t,rfl⟩
 ·exact absurd rfl h
 ·exact ⟨A,t,by simp⟩
theorem le_last {A:List α} {t:α} (hw:SWO lt) (h:srtd lt (A++[t])) (x:α) (hx:x ∈ A++[t]):lt t x=false:=by
 rcases List.mem_append.1 hx with hx|hx
 ·exact (srtd_app h).2.2 x hx t (by simp)
 ·rw [List.mem_singleton.1 hx]
  cases e:lt t t with
  | false=>rfl
  | true=>exact (hw.asym t t e ▸ e).symm ▸ rfl
theorem ge_head {A:List α} {t:α} (hw:SWO lt) (h:srtd lt (t::A)) (x:α) (hx:x ∈ t::A):lt x t=false:=by
 rcases List.mem_cons.1 hx with rfl|hx
 ·cases e:lt x x with
  | false=>rfl
  | true=>exact (hw.asym x x e ▸ e).symm ▸ rfl
 ·exact (List.pairwise_cons.1 h).1 x hx
theorem symM_ok (hw:SWO lt):∀ (f:Nat) (P L R S:List α) (a m b:Nat),a=P.length->m=a+L.length->b=m+R.length->0<L.length->0<R.length->srtd lt L->srtd lt R->b - a<=f →
 symM lt f a m b (P++(L++(R++S)))=P++(mgS lt L R++S):=by
 intro f
 induction f with
 | zero=>intro P L R S a m b h1 h2 h3 h4 h5 _ _ h6;omega
 | succ f ih =>
  intro P L R S a m b ha hm hb hL hR sL sR hf
  rw [symM]
  by_cases c1:m - a=1
  ·rw [if_pos c1]
   obtain ⟨x,rfl⟩:∃ x,L=[x]:=List.length_eq_one_iff.1 (by omega)
   simp only [List.length_cons,List.length_nil] at hm
   obtain ⟨k,hk,k1,k2,k3,k4⟩:=bsG_ok (fun h=>ltAt lt (P++([x]++(R++S))) h a) b m b (by omega) (by omega)
   rw [hk]
   obtain ⟨A,B,rfl,hA,hB⟩:=take_drop_len (U:=R) (n:=k - m) (by omega)
   rw [List.length_append] at hb hB
   have gx:(P++([x]++((A++B)++S)))[a]?=some x:=by rw [List.singleton_append];exact get_mid ha
   have sAB:=srtd_app sR
   have hAx:∀ r ∈ A,lt r x=true:=by
    intro r hr
    obtain ⟨A',t,rfl⟩:=last_of (List.ne_nil_of_mem hr)
    have hl:(A'++[t]).length=A'.length+1:=by simp
    have gt:(P++([x]++(((A'++[t])++B)++S)))[k - 1]?=some t:=by
     rw [show P++([x]++(((A'++[t])++B)++S))=(P++x::A')++t::(B++S) by simp]
     exact get_mid (by rw [List.length_append,List.length_cons];omega)
    have:=k4 (by omega)
    rw [ltAt_eq gt gx] at this
    exact hw.lt_of_le_lt (le_last hw sAB.1 r hr) this
   have hBx:∀ z ∈ B,lt z x=false:=by
    intro z hz
    cases B with
    | nil=>cases hz
    | cons t B =>
     have gt:(P++([x]++((A++t::B)++S)))[k]?=some t:=by
      rw [show P++([x]++((A++t::B)++S))=(P++x::A)++t::(B++S) by simp]
      exact get_mid (by rw [List.length_append,List.length_cons];omega)
     have:=k3 (by simp only [List.length_cons] at hB hb;omega)
     rw [ltAt_eq gt gx] at this
     exact hw.ntr z t x (ge_head hw sAB.2.1 z hz) this
   have e1:=mg_split (lt:=lt) [] A [x] B (fun r hr y hy=>by rw [List.mem_singleton.1 hy];exact hAx r hr) (fun z _ y hy=>by cases hy)
   have e2:=mg_split (lt:=lt) [x] [] [] B (fun r hr=>by cases hr) (fun z hz y hy=>by rw [List.mem_singleton.1 hy];exact hBx z hz)
   rw [List.nil_append,List.append_nil,mg_nil,nil_mg] at e2
   rw [List.nil_append,nil_mg,e2] at e1
   rw [e1,show k - 1 - a=A.length by omega,show P++([x]++((A++B)++S))=P++x::(A++(B++S)) by simp,upG_ok x (B++S) A P a ha]
   simp
  rw [if_neg c1]
  by_cases c2:b - m=1
  ·rw [if_pos c2]
   obtain ⟨y,rfl⟩:∃ x,R=[x]:=List.length_eq_one_iff.1 (by omega)
   simp only [List.length_cons,List.length_nil] at hb
   obtain ⟨k,hk,k1,k2,k3,k4⟩:=bsG_ok (fun h=>!ltAt lt (P++(L++([y]++S))) m h) b a m (by omega) (by omega)
   rw [hk]
   obtain ⟨A,B,rfl,hA,hB⟩:=take_drop_len (U:=L) (n:=k - a) (by omega)
   rw [List.length_append] at hm hB
   have gy:(P++((A++B)++([y]++S)))[m]?=some y:=by
    rw [show P++((A++B)++([y]++S))=(P++(A++B))++y::S by simp]
    exact get_mid (by rw [List.length_append,List.length_append];omega)
   have sAB:=srtd_app sL
   have hBy:∀ z ∈ B,lt y z=true:=by
    intro z hz
    cases B with
    | nil=>cases hz
    | cons t B =>
     have gt:(P++((A++t::B)++([y]++S)))[k]?=some t:=by
      rw [show P++((A++t::B)++([y]++S))=(P++A)++t::(B++([y]++S)) by simp]
      exact get_mid (by rw [List.length_append];omega)
     have:=k3 (by simp only [List.length_cons] at hB hm;omega)
     simp only [ltAt_eq gy gt,Bool.not_eq_false'] at this
     exact hw.lt_of_lt_le this (ge_head hw sAB.2.1 z hz)
   have hAy:∀ x ∈ A,lt y x=false:=by
    intro x hx
    obtain ⟨A',t,rfl⟩:=last_of (List.ne_nil_of_mem hx)
    have hl:(A'++[t]).length=A'.length+1:=by simp
    have gt:(P++(((A'++[t])++B)++([y]++S)))[k - 1]?=some t:=by
     rw [show P++(((A'++[t])++B)++([y]++S))=(P++A')++t::(B++([y]++S)) by simp]
     exact get_mid (by rw [List.length_append];omega)
    have:=k4 (by omega)
    simp only [ltAt_eq gy gt,Bool.not_eq_true'] at this
    exact hw.ntr y t x this (le_last hw sAB.1 x hx)
   have e1:=mg_split (lt:=lt) A [y] B [] (fun r hr z hz=>by rw [List.mem_singleton.1 hr];exact hBy z hz) (fun z hz=>by cases hz)
   rw [List.append_nil,mg_nil,mg_ahead A y hAy] at e1
   rw [e1,show m - k=B.length by omega,show P++((A++B)++([y]++S))=(P++A)++(B++y::S) by simp,dnG_ok y (P++A) B.length B S m rfl (by rw [List.length_append];omega)]
   simp
  rw [if_neg c2]
  dsimp only
  generalize hmid:(a+b) / 2=mid
  generalize hst0:(if mid<m then mid+m - b else a)=st0
  generalize hr0:(if mid<m then mid else m)=r0
  have hb0:a<=st0/\st0<=r0/\r0<=m/\mid+m<=st0+b/\r0<=mid:=by
   split at hst0<;>split at hr0<;>omega
  obtain ⟨st,hst,s1,s2,s3,s4⟩:=bsG_ok (fun c=>!ltAt lt (P++(L++(R++S))) (mid+m - 1 - c) c) b st0 r0 (by omega) (by omega)
  rw [hst]
  generalize hen:mid+m - st=en
  have he1:m<=en/\en<=b:=by omega
  obtain ⟨L1,L2,rfl,l1,l2⟩:=take_drop_len (U:=L) (n:=st - a) (by omega)
  obtain ⟨R1,R2,rfl,r1,r2⟩:=take_drop_len (U:=R) (n:=en - m) (by omega)
  rw [List.length_append] at hm hb hL hR l2 r2
  have sL':=srtd_app sL
  have sR':=srtd_app sR
  have hD:P++((L1++L2)++((R1++R2)++S))=(P++L1)++(L2++(R1++(R2++S))):=by simp
  have k1:∀ x ∈ R1,∀ y ∈ L2,lt x y=true:=by
   intro x hx y hy
   obtain ⟨R',t,rfl⟩:=last_of (List.ne_nil_of_mem hx)
   cases L2 with
   | nil=>cases hy
   | cons u L2 =>
    have hl:(R'++[t]).length=R'.length+1:=by simp
    simp only [List.length_cons] at hm l2
    have hlt:st<r0:=by
     split at hr0<;>omega
    have gt:((P++L1)++((u::L2)++((R'++[t])++(R2++S))))[mid+m - 1 - st]?=some t:=by
     rw [show (P++L1)++((u::L2)++((R'++[t])++(R2++S)))=(P++L1++u::L2++R')++t::(R2++S) by simp]
     exact get_mid (by simp only [List.length_append,List.length_cons];omega)
    have gu:((P++L1)++((u::L2)++((R'++[t])++(R2++S))))[st]?=some u:=by
     rw [List.cons_append]
     exact get_mid (by simp only [List.length_append];omega)
    have:=s3 hlt
    rw [hD] at this
    simp only [ltAt_eq gt gu,Bool.not_eq_false'] at this
    exact hw.lt_of_le_lt (le_last hw sR'.1 x hx) (hw.lt_of_lt_le this (ge_head hw sL'.2.1 y hy))
  have k2:∀ x ∈ R2,∀ y ∈ L1,lt x y=false:=by
   intro x hx y hy
   obtain ⟨L',t,rfl⟩:=last_of (List.ne_nil_of_mem hy)
   cases R2 with
   | nil=>cases hx
   | cons u R2 =>
    have hl:(L'++[t]).length=L'.length+1:=by simp
    simp only [List.length_cons] at hb r2
    have hlt:st0<st:=by
     split at hst0<;>omega
    have gt:((P++(L'++[t]))++(L2++(R1++((u::R2)++S))))[st - 1]?=some t:=by
     rw [show (P++(L'++[t]))++(L2++(R1++((u::R2)++S)))=(P++L')++t::(L2++(R1++((u::R2)++S))) by simp]
     exact get_mid (by simp only [List.length_append];omega)
    have gu:((P++(L'++[t]))++(L2++(R1++((u::R2)++S))))[mid+m - 1 - (st - 1)]?=some u:=by
     rw [show (P++(L'++[t]))++(L2++(R1++((u::R2)++S)))=(P++(L'++[t])++L2++R1)++u::(R2++S) by simp]
     exact get_mid (by simp only [List.length_append,List.length_cons,List.length_nil] at *;omega)
    have:=s4 hlt
    rw [hD] at this
    simp only [ltAt_eq gu gt,Bool.not_eq_true'] at this
    exact hw.ntr x t y (hw.ntr x u t (ge_head hw sR'.2.1 x hx) this) (le_last hw sL'.1 y hy)
  have hM:=mg_split L1 R1 L2 R2 k1 k2
  have hD1:(if st<m/\m<en then rotG m b (m - st) (en - m) (P++((L1++L2)++((R1++R2)++S))) else P++((L1++L2)++((R1++R2)++S)))=P++(L1++(R1++(L2++(R2++S)))):=by
   split
   ·rw [hD,rotG_ok m b (P++L1) L2 R1 (R2++S) (m - st) (en - m) (by omega) (by omega) (by rw [List.length_append];omega) (by omega) (by omega) (by omega) (by omega)]
    simp
   ·rename_i q
    by_cases q1:st<m
    ·obtain rfl:R1=[]:=List.length_eq_zero_iff.1 (by omega)
     simp
    ·obtain rfl:L2=[]:=List.length_eq_zero_iff.1 (by omega)
     simp
  rw [hD1]
  have hD2:(if a<st/\st<mid then symM lt f a st mid (P++(L1++(R1++(L2++(R2++S))))) else P++(L1++(R1++(L2++(R2++S)))))=P++(mgS lt L1 R1++(L2++(R2++S))):=by
   split
   ·exact ih P L1 R1 (L2++(R2++S)) a st mid ha (by omega) (by omega) (by omega) (by omega) sL'.1 sR'.1 (by omega)
   ·rename_i q
    by_cases q1:a<st
    ·obtain rfl:R1=[]:=List.length_eq_zero_iff.1 (by omega)
     rw [mg_nil];simp
    ·obtain rfl:L1=[]:=List.length_eq_zero_iff.1 (by omega)
     rw [nil_mg];simp
  rw [hD2]
  have hD3:(if mid<en/\en<b then symM lt f mid en b (P++(mgS lt L1 R1++(L2++(R2++S)))) else P++(mgS lt L1 R1++(L2++(R2++S))))=P++(mgS lt L1 R1++(mgS lt L2 R2++S)):=by
   split
   ·have:=ih (P++mgS lt L1 R1) L2 R2 S mid en b (by rw [List.length_append,mg_len];omega) (by omega) (by omega) (by omega) (by omega) sL'.2.1 sR'.2.1 (by omega)
    rw [show P++(mgS lt L1 R1++(L2++(R2++S)))=(P++mgS lt L1 R1)++(L2++(R2++S)) by simp,this]
    simp
   ·rename_i q
    by_cases q1:mid<en
    ·obtain rfl:R2=[]:=List.length_eq_zero_iff.1 (by omega)
     rw [mg_nil];simp
    ·obtain rfl:L2=[]:=List.length_eq_zero_iff.1 (by omega)
     rw [nil_mg];simp
  rw [hD3,hM]
  simp
theorem blkG_ok (hw:SWO lt) (n:Nat):∀ (f:Nat) (P B:List α) (a:Nat),a=P.length->n=P.length+B.length->B.length<=f->∃ (A A' C:List α),blkG lt n f a (P++B)=(a+A.length,P++(A'++C))/\B=A++C/\C.length<20 ∧
 ∀ C',ChS lt 20 C C'->ChS lt 20 B (A'++C')/\A'.length=A.length:=by
 intro f
 induction f with
 | zero =>
  intro P B a ha hn hf
  obtain rfl:B=[]:=List.length_eq_zero_iff.1 (by omega)
  exact ⟨[],[],[],by rw [blkG];simp,rfl,by simp,fun C' h=>⟨by simpa using h,rfl⟩⟩
 | succ f ih =>
  intro P B a ha hn hf
  rw [blkG]
  by_cases q:a+20<=n
  ·rw [if_pos q]
   obtain ⟨X,C0,rfl,hX,hC0⟩:=take_drop_len (U:=B) (n:=20) (by omega)
   rw [List.length_append] at hn hf
   rw [ins_blk hw P X C0 a (20 - 1) (a+1) ha (by omega) rfl]
   obtain ⟨A,A',C,h1,h2,h3,h4⟩:=ih (P++sortS lt X) C0 (a+20) (by rw [List.length_append,sort_len];omega) (by rw [List.length_append,sort_len];omega) (by omega)
   rw [show P++(sortS lt X++C0)=(P++sortS lt X)++C0 by simp,h1]
   refine ⟨X++A,sortS lt X++A',C,?_,by rw [h2];simp,h3,fun C' hC=>?_⟩
   ·rw [List.length_append,hX,Nat.add_assoc];simp
   ·obtain ⟨g1,g2⟩:=h4 C' hC
    refine ⟨by rw [List.append_assoc];exact .more X hX g1,by rw [List.length_append,List.length_append,sort_len,g2]⟩
  ·rw [if_neg q]
   exact ⟨[],[],B,by simp,rfl,by omega,fun C' h=>⟨by simpa using h,rfl⟩⟩
theorem mrgG_ok (hw:SWO lt) (n bs:Nat) (hbs:0<bs):∀ (f:Nat) (P D D':List α) (a:Nat),a=P.length->n=P.length+D.length->D.length<=f->ChS lt bs D D'->∃ (A A' C C':List α),mrgG lt n bs f a (P++D')=(a+A.length,P++(A'++C'))/\D=A++C/\C.length<2 * bs/\ChS lt bs C C'/\A'.length=A.length ∧
 ∀ C2,ChS lt (bs * 2) C C2->ChS lt (bs * 2) D (A'++C2):=by
 intro f
 induction f with
 | zero =>
  intro P D D' a ha hn hf h
  obtain rfl:D=[]:=List.length_eq_zero_iff.1 (by omega)
  exact ⟨[],[],[],D',by rw [mrgG];simp,rfl,by simp;omega,h,rfl,fun C' h=>by simpa using h⟩
 | succ f ih =>
  intro P D D' a ha hn hf h
  rw [mrgG]
  by_cases q:a+2 * bs<=n
  ·rw [if_pos q]
   cases h with
   | last _ hD=>omega
   | more A hA hB =>
    rename_i B B'
    rw [List.length_append] at hn hf
    obtain ⟨B1,C,B1',C',rfl,rfl,hB1,hC,hCC,hBl⟩:∃ B1 C B1' C',B=B1++C/\B'=B1'++C'/\B1.length=bs/\ChS lt bs C C'/\B1'=sortS lt B1/\B1'.length=bs:=by
     cases hB with
     | last _ hD=>exact ⟨B,[],sortS lt B,sortS lt [],by simp,by simp [sortS],by omega,.last [] (by simp),rfl,by rw [sort_len];omega⟩
     | more B1 hB1 hC=>exact ⟨B1,_,sortS lt B1,_,rfl,rfl,hB1,hC,rfl,by rw [sort_len];exact hB1⟩
    subst hCC
    rw [List.length_append] at hn hf
    have:=symM_ok hw n P (sortS lt A) (sortS lt B1) C' a (a+bs) (a+2 * bs) ha (by rw [sort_len];omega) (by rw [sort_len];omega) (by rw [sort_len];omega) (by rw [sort_len];omega) (sort_srtd hw A) (sort_srtd hw B1) (by omega)
    rw [<-sort_app hw] at this
    rw [show P++(sortS lt A++(sortS lt B1++C'))=P++(sortS lt A++(sortS lt B1++C')) from rfl,this]
    have hl:(sortS lt (A++B1)).length=2 * bs:=by rw [sort_len,List.length_append];omega
    obtain ⟨A2,A2',C2,C2',g1,g2,g3,g4,g5,g6⟩:=ih (P++sortS lt (A++B1)) C C' (a+2 * bs) (by rw [List.length_append,hl];omega) (by rw [List.length_append,hl];omega) (by omega) hC
    rw [show P++(sortS lt (A++B1)++C')=(P++sortS lt (A++B1))++C' by simp,g1]
    refine ⟨A++B1++A2,sortS lt (A++B1)++A2',C2,C2',?_,by rw [g2];simp,g3,g4,by rw [List.length_append,List.length_append (bs:=A2),List.length_append,hl,g5];omega,fun X hX=>?_⟩
    ·have e:(A++B1++A2).length=2 * bs+A2.length:=by rw [List.length_append,List.length_append];omega
     rw [e];simp [Nat.add_assoc]
    ·rw [List.append_assoc,<-List.append_assoc A B1 C]
     exact .more (A++B1) (by rw [List.length_append];omega) (g6 X hX)
  ·rw [if_neg q]
   exact ⟨[],[],D,D',by simp,rfl,by omega,h,rfl,fun C' h=>by simpa using h⟩
theorem lvlG_ok (hw:SWO lt) (bs:Nat) (hbs:0<bs) (D D':List α) (h:ChS lt bs D D'):ChS lt (bs * 2) D (lvlG lt D.length bs D'):=by
 unfold lvlG
 obtain ⟨A,A',C,C',g1,rfl,g3,g4,g5,g6⟩:=mrgG_ok hw D.length bs hbs D.length [] D D' 0 rfl (by simp) (Nat.le_refl _) h
 rw [List.nil_append,List.nil_append] at g1
 rw [g1]
 dsimp only
 rw [List.length_append,Nat.zero_add]
 by_cases q:A.length+bs<A.length+C.length
 ·rw [if_pos q]
  cases g4 with
  | last _ hC=>omega
  | more B hB hX =>
   rename_i X X'
   rw [List.length_append] at g3 q
   have:=hX.small (by omega)
   subst this
   have:=symM_ok hw (A.length+(B++X).length) A' (sortS lt B) (sortS lt X) [] A.length (A.length+bs) (A.length+(B++X).length) g5.symm (by rw [sort_len];omega) (by rw [sort_len,List.length_append];omega) (by rw [sort_len];omega) (by rw [sort_len];omega) (sort_srtd hw B) (sort_srtd hw X) (by omega)
   rw [List.append_nil,List.append_nil,<-sort_app hw] at this
   rw [this]
   exact g6 _ (.last _ (by rw [List.length_append];omega))
 ·rw [if_neg q]
  have:=g4.small (by omega)
  subst this
  exact g6 _ (.last _ (by omega))
theorem mrgO_ok (hw:SWO lt) (D:List α):∀ (f bs:Nat) (D':List α),0<bs->ChS lt bs D D'->D.length<=f+bs->mrgO lt D.length f bs D'=sortS lt D:=by
 intro f
 induction f with
 | zero=>intro bs D' h0 h hf;rw [mrgO];exact h.small (by omega)
 | succ f ih =>
  intro bs D' h0 h hf
  rw [mrgO]
  by_cases q:bs<D.length
  ·rw [if_pos q]
   exact ih (bs * 2) _ (by omega) (lvlG_ok hw bs h0 D D' h) (by omega)
  ·rw [if_neg q];exact h.small (by omega)
theorem stabG_ok (hw:SWO lt) (D:List α):stabG lt D=sortS lt D:=by
 unfold stabG
 obtain ⟨A,A',C,g1,rfl,g3,g4⟩:=blkG_ok hw D.length D.length [] D 0 rfl (by simp) (Nat.le_refl _)
 rw [List.nil_append,List.nil_append] at g1
 rw [g1]
 dsimp only
 obtain ⟨h1,h2⟩:=g4 (sortS lt C) (.last C (by omega))
 have:=ins_blk hw A' C [] A.length ((A++C).length - (A.length+1)) (A.length+1) h2.symm (by rw [List.length_append];omega) rfl
 rw [List.append_nil,List.append_nil] at this
 rw [Nat.zero_add,this]
 exact mrgO_ok hw (A++C) _ 20 _ (by omega) h1 (by omega)
end
end Go.Ac

namespace Go.Ac
open Go Go.Proofs
set_option maxRecDepth 10000
set_option maxHeartbeats 1000000
structure Doc where
 id:List UInt8
 ver:Int
 v:JV
def docA:Doc->AV
 | ⟨id,ver,.mk h l⟩=>.agg [.str id,iA ver,iA h.kind,iA h.int,.str h.text,.sl 1 (h.names.map AV.str) [],.sl 5 (encVs l) []]
def docsA (D:List Doc):List AV:=D.map docA
def cmS:AV:=.fn (.func 13) [.val (.pointer none)] []
theorem docs_clo:∀ D:List Doc,cloL (docsA D)=true
 | []=>rfl
 | ⟨i,v,.mk h l⟩::D=>by
  have:=docs_clo D
  unfold docsA at this ⊢
  rw [List.map_cons,cloL,this]
  simp [docA,AV.clo,cloL,iA,cloL_str,encVs_clo]
theorem zlS {φ ph x y} (h:LeP φ ph x y:=by first|exact .eq rfl rfl|exact .same (by rw [hws];rfl) rfl|exact .same (by rw [hws2];rfl) rfl|exact .same (by rw [hws3];rfl) rfl|exact .eq (congrArg (AV.gs _ 0) hgl) rfl):LeP φ ph x y:=h
theorem ztS {p:Prop} (h:p:=by and_intros<;>first|exact trivial|exact zlS):p:=h
theorem zvS {p:Prop} (h:p:=by and_intros<;>first|rfl|exact trivial|exact allN_clo zb|exact allN_cloL (docs_clo _)):p:=h
theorem docs_len (D:List Doc):(docsA D).length=D.length:=by unfold docsA;rw [List.length_map]
theorem docs_at {D:List Doc} {i:Nat} {x:Doc} (h:D[i]?=some x):(docsA D)[0+((i:Nat):Int).toNat]?=some (docA x):=by
 rw [Int.toNat_natCast,Nat.zero_add];unfold docsA;rw [List.getElem?_map,h];rfl
theorem wrapS {n m:Int} (h:n=m) (h1:-(2 ^ 62)<=m) (h2:m<=2 ^ 62):IntKind.i64.wrap n=m:=by subst h;exact IntWalk.i64_in _ (by omega)
theorem midW {i j:Nat} (h:i+j<=2 ^ 60):IntKind.i64.wrap ((IntKind.u64.wrap (IntKind.i64.wrap ((i:Int)+(j:Int)))).fdiv 2)=(((i+j) / 2:Nat):Int):=by
 have h1:IntKind.i64.wrap ((i:Int)+(j:Int))=((i+j:Nat):Int):=wrapS (by omega) (by omega) (by omega)
 rw [h1]
 have h2:IntKind.u64.wrap ((i+j:Nat):Int)=((i+j:Nat):Int):=by
  exact IntWalk.u64_in _ (by omega)
 rw [h2]
 have h3:Int.fdiv ((i+j:Nat):Int) 2=(((i+j) / 2:Nat):Int):=by
  rw [Int.fdiv_eq_ediv_of_nonneg _ (by omega)];omega
 rw [h3]
 exact wrapS rfl (by omega) (by omega)
section
variable (W:World) {lt:Doc->Doc->Bool}
def CmpC (W:World) (lt:Doc->Doc->Bool):Prop:=∀ x y:Doc,∃ n:Int,MutC Tryz.prog W 13 [.val (.pointer none),docA x,docA y] [] (.ret (iA n) [])/\decide (n<0)=lt x y
theorem callSWP:callable Tryz.prog 121=true:=kr
theorem callROT:callable Tryz.prog 108=true:=kr
theorem callINS:callable Tryz.prog 95=true:=kr
theorem callSYM:callable Tryz.prog 96=true:=kr
theorem callST:callable Tryz.prog 74=true:=kr
theorem callSF:callable Tryz.prog 40=true:=kr
variable (hcmp:CmpC W lt)
include hcmp
omit hcmp
include hcmp
end
end Go.Ac

namespace Go.Ac
open Go Go.Proofs
set_option maxRecDepth 10000
set_option maxHeartbeats 1000000
section
variable (W:World) {lt:Doc->Doc->Bool} (hcmp:CmpC W lt)
include hcmp
end
end Go.Ac

namespace Go.Ac
open Go Go.Proofs
set_option maxRecDepth 10000
set_option maxHeartbeats 1000000
theorem Fb2_z1 {kp f ph σ σ'} (h:MatchK kp f ph σ σ':=by exact ⟨by rfl,(by simp only [S68,R68,S164,R164,S72,tOK,List.map_cons,List.map_nil,and_true]<;>exact zt),(by simp only [S68,R68,S164,R164,S72,hOK,List.map_cons,List.map_nil,and_true]<;>exact zh),(by simp only [S68,R68,S164,R164,S72,liveT,List.map_cons,List.map_nil,and_true]<;>exact zv),(by simp only [S68,R68,S164,R164,S72,liveH,List.map_cons,List.map_nil,and_true]<;>exact zv)⟩):MatchK kp f ph σ σ':=h
theorem Fb2_z4 {cs} (h:Holds cs:=by simp only [Holds,and_true]<;>and_intros<;>first|exact zd|(simp only [Bool.not_eq_true',decide_eq_false_iff_not,Bool.not_eq_false',decide_eq_true_eq,ixbB_eq Tryz.prog,List.length_map,encVs_len,List.length_cons];first|assumption|omega;done)):Holds cs:=h
theorem Fb2_z5 {cs} (h:Holds cs:=by simp only [Holds,and_true]<;>and_intros<;>first|exact zd|(simp only [Bool.not_eq_true',decide_eq_false_iff_not,Bool.not_eq_false',decide_eq_true_eq,ixbB_eq Tryz.prog,List.length_map,encVs_len,List.length_cons];first|assumption|omega;done)|exact Fb2_z1):Holds cs:=h
def S68 (s:List UInt8) (i:Int):AS:=⟨[(0,.str s),(3,iA i)],[]⟩
def R68 (b:Bool):AS:=⟨[(2,.val (.bool b))],[]⟩
def S164 (h:JH) (l:List JV) (s:List UInt8) (m i:Int):AS:=⟨[(1,.str s),(2,.gp 100000 0),(7,iA m),(8,iA i)],[(100000,.box (encV (.mk h l)) .own)]⟩
def R164 (i:Int):AS:=⟨[(4,iA i)],[]⟩
def S72 (h:JH) (l:List JV) (s:List UInt8) (i:Int):AS:=⟨[(1,.str s),(2,.gp 100000 0),(5,iA i)],[(100000,.box (encV (.mk h l)) .own)]⟩
theorem b68_0 (W:World) (s:List UInt8) (i:Int) (x:UInt8):sQ W {lp:=true} 61 0 [] [0,2,3,4] (S68 s i) [bt,.lg,Ans.byt (some x),bt,ee]=.ok ((.ret,{t:=[(0,.str s),(2,bA false),(3,iA i),(4,iA i)],h:=[]}),[ee],[decide ((x.toNat:Int)=46)=true,s[i.toNat]?=some x,0<=i,decide (i<(s.length:Int))=true]):=kr
theorem b68_1 (W:World) (s:List UInt8) (i:Int) (x:UInt8):sQ W {lp:=true} 61 0 [] [0,2,3] (S68 s i) [bt,.lg,Ans.byt (some x),bf,ee]=.ok ((.normal,{t:=[(0,.str s),(3,iA (IntKind.i64.wrap (i+1)))],h:=[]}),[ee],[decide ((x.toNat:Int)=46)=false,s[i.toNat]?=some x,0<=i,decide (i<(s.length:Int))=true]):=kr
theorem b68_2 (W:World) (s:List UInt8) (i:Int):sQ W {lp:=true} 61 0 [] [0,2,3,4] (S68 s i) [bf,ee]=.ok ((.exit 0,{t:=[(0,.str s),(3,iA i),(4,iA i)],h:=[]}),[ee],[decide (i<(s.length:Int))=false]):=kr
theorem p68_0 (W:World) (s:List UInt8) (x:UInt8):sF W {lp:=true} 61 [.str s] [] 100000 [ee,.loopM [] [] (S68 s 0) (.exit 0) (S68 s (s.length:Int)),bt,bt,bt,bt,bt,bt,aE 1,Ans.byt (some x),bt,bt,ee] []=.ok (.ret (bA (!decide ((x.toNat:Int)=36))) [],[ee],d2 (decide ((s.length:Int)<=64)=true) ((s[0]?=some x)::(d2 (decide ((s.length:Int)<=64)=true) (d4 (decide (1<=(s.length:Int))=true) [LZ W [] 61 0 (S68 s 0) (.exit 0) (S68 s (s.length:Int)),MatchK [] [] [] {t:=[(0,.str s),(3,iA 0)],h:=[]} (S68 s 0)])))):=kr
theorem p68_1 (W:World) (s:List UInt8):sF W {lp:=true} 61 [.str s] [] 100000 [ee,.loopM [] [] (S68 s 0) (.exit 0) (S68 s (s.length:Int)),bt,bt,bt,bt,bf,bf,bf,bf,ee] []=.ok (.ret (bA false) [],[ee],d4 (decide ((s.length:Int)<=64)=false) (d4 (decide (1<=(s.length:Int))=true) [LZ W [] 61 0 (S68 s 0) (.exit 0) (S68 s (s.length:Int)),MatchK [] [] [] {t:=[(0,.str s),(3,iA 0)],h:=[]} (S68 s 0)])):=kr
theorem p68_2 (W:World) (s:List UInt8):sF W {lp:=true} 61 [.str s] [] 100000 [ee,.loopM [] [] (S68 s 0) (.exit 0) (S68 s (s.length:Int)),bf,bf,bf,bf,ee] []=.ok (.ret (bA false) [],[aE 9999996],d4 (decide (1<=(s.length:Int))=false) [LZ W [] 61 0 (S68 s 0) (.exit 0) (S68 s (s.length:Int)),MatchK [] [] [] {t:=[(0,.str s),(3,iA 0)],h:=[]} (S68 s 0)]):=kr
theorem q68_0 (W:World) (s:List UInt8):sF W {lp:=true} 61 [.str s] [] 100000 [ee,.loopM [] [] (S68 s 0) .ret (R68 false),ee] []=.ok (.ret (bA false) [],[ee],[LZ W [] 61 0 (S68 s 0) .ret (R68 false),MatchK [] [] [] {t:=[(0,.str s),(3,iA 0)],h:=[]} (S68 s 0)]):=kr
theorem b164_0 (W:World) (h:JH) (l:List JV) (s:List UInt8) (m i:Int) (x:List UInt8):sQ W {lp:=true} 97 0 [] [1,2,4,7,8] (S164 h l s m i) [bt,.lg,oS (.str x),bt,ee]=.ok ((.ret,{t:=[(1,.str s),(2,.gp 100000 0),(4,iA i),(7,iA m),(8,iA i)],h:=[(100000,gB (eV h l))]}),[ee],[decide (x=s)=true,(List.map AV.str h.names)[i.toNat]?=some (AV.str x),0<=i,decide (i<m)=true]):=kr
theorem b164_1 (W:World) (h:JH) (l:List JV) (s:List UInt8) (m i:Int) (x:List UInt8):sQ W {lp:=true} 97 0 [] [1,2,4,7,8] (S164 h l s m i) [bt,.lg,oS (.str x),bf,ee]=.ok ((.normal,{t:=[(1,.str s),(2,.gp 100000 0),(7,iA m),(8,iA (IntKind.i64.wrap (i+1)))],h:=[(100000,gB (eV h l))]}),[ee],[decide (x=s)=false,(List.map AV.str h.names)[i.toNat]?=some (AV.str x),0<=i,decide (i<m)=true]):=kr
theorem b164_2 (W:World) (h:JH) (l:List JV) (s:List UInt8) (m i:Int):sQ W {lp:=true} 97 0 [] [1,2,4,7,8] (S164 h l s m i) [bf,ee]=.ok ((.exit 0,{t:=[(1,.str s),(2,.gp 100000 0),(7,iA m),(8,iA i)],h:=[(100000,gB (eV h l))]}),[ee],[decide (i<m)=false]):=kr
theorem p164_0 (W:World) (h:JH) (l:List JV) (s:List UInt8) (m:Int):sF W {lp:=true} 97 [eV h l,.str s] [] 100000 [ee,.loopM [] [] (S164 h l s m 0) (.exit 0) (S164 h l s m m),ee] []=.ok (.ret (iA (-1)) [],[ee],[LZ W [] 97 0 (S164 h l s m 0) (.exit 0) (S164 h l s m m),MatchK [] [] [] {t:=[(1,.str s),(2,.gp 100000 0),(7,iA (if (↑(encVs l).length:Int)<(↑(List.map AV.str h.names).length:Int) then (↑(encVs l).length:Int) else (↑(List.map AV.str h.names).length:Int))),(8,iA 0)],h:=[(100000,gB (eV h l))]} (S164 h l s m 0)]):=kr
theorem q164_0 (W:World) (h:JH) (l:List JV) (s:List UInt8) (m i:Int):sF W {lp:=true} 97 [eV h l,.str s] [] 100000 [ee,.loopM [] [] (S164 h l s m 0) .ret (R164 i),ee] []=.ok (.ret (iA i) [],[ee],[LZ W [] 97 0 (S164 h l s m 0) .ret (R164 i),MatchK [] [] [] {t:=[(1,.str s),(2,.gp 100000 0),(7,iA (if (↑(encVs l).length:Int)<(↑(List.map AV.str h.names).length:Int) then (↑(encVs l).length:Int) else (↑(List.map AV.str h.names).length:Int))),(8,iA 0)],h:=[(100000,gB (eV h l))]} (S164 h l s m 0)]):=kr
theorem p116_0 (W:World) (s:List UInt8):sF W {lp:=true} 59 [.str s] [] 100000 [bt,bt,bt,bt,bt,bt,aE 7,bt,bt,bt,ee] []=.ok (.ret (bA false) [],[aE 9999996],d2 (decide ((s.length:Int)<=64)=true) ((decide ([46]=s)=true)::(d2 (decide ((s.length:Int)<=64)=true) (d4 (decide (1<=(s.length:Int))=true) [])))):=kr
theorem p116_1 (W:World) (s:List UInt8) (x:UInt8):sF W {lp:=true} 59 [.str s] [] 100000 [bt,bt,bt,bt,bt,bt,aE 7,bf,aE 4,bt,bt,bt,bt,aE 1,Ans.byt (some x),bt,bt,ee] []=.ok (.ret (bA (!decide ((x.toNat:Int)=36))) [],[ee],d2 ((!decide (0<=ixbB s (UInt8.ofNat 46)))=true) ((s[0]?=some x)::(d2 ((!decide (0<=ixbB s (UInt8.ofNat 46)))=true) (d2 (decide ((s.length:Int)<=64)=true) ((decide ([46]=s)=false)::(d2 (decide ((s.length:Int)<=64)=true) (d4 (decide (1<=(s.length:Int))=true) []))))))):=kr
theorem p116_2 (W:World) (s:List UInt8):sF W {lp:=true} 59 [.str s] [] 100000 [bt,bt,bt,bt,bt,bt,aE 7,bf,aE 4,bt,bt,bf,bf,bf,bf,ee] []=.ok (.ret (bA false) [],[ee],d4 ((!decide (0<=ixbB s (UInt8.ofNat 46)))=false) (d2 (decide ((s.length:Int)<=64)=true) ((decide ([46]=s)=false)::(d2 (decide ((s.length:Int)<=64)=true) (d4 (decide (1<=(s.length:Int))=true) []))))):=kr
theorem p116_3 (W:World) (s:List UInt8):sF W {lp:=true} 59 [.str s] [] 100000 [bt,bt,bt,bt,bf,bf,bf,bf,ee] []=.ok (.ret (bA false) [],[aE 9999996],d4 (decide ((s.length:Int)<=64)=false) (d4 (decide (1<=(s.length:Int))=true) [])):=kr
theorem p116_4 (W:World) (s:List UInt8):sF W {lp:=true} 59 [.str s] [] 100000 [bf,bf,bf,bf,ee] []=.ok (.ret (bA false) [],[aE 9999992],d4 (decide (1<=(s.length:Int))=false) []):=kr
theorem p137_0 (W:World) (h:JH) (l:List JV) (s:List UInt8) (k:Int):sF W {lp:=true,tl:=[56,97]} 76 [eV h l,.str s] [] 100000 [bt,ee,cR (iA k) [],ee] []=.ok (.ret (iA k) [],[ee],[MZ W 97 [eV h l,.str s] [] (.ret (iA k) []),decide (h.kind=6)=true]):=kr
theorem p137_1 (W:World) (h:JH) (l:List JV) (s:List UInt8):sF W {lp:=true,tl:=[56,97]} 76 [eV h l,.str s] [] 100000 [bf,bt,ee,cR (idxA s) [],bt,bt,bt,bt,bt,bt,bt,ee] []=.ok (.ret (iA (↑(idx s):Int)) [],[ee],(decide ((↑(idx s):Int)<(↑(encVs l).length:Int))=true)::(d6 (idxOk s=true) [MZ W 56 [.str s] [] (.ret (.tup [iA (↑(idx s):Int),bA (idxOk s)]) []),decide (h.kind=5)=true,decide (h.kind=6)=false])):=kr
theorem p137_2 (W:World) (h:JH) (l:List JV) (s:List UInt8):sF W {lp:=true,tl:=[56,97]} 76 [eV h l,.str s] [] 100000 [bf,bt,ee,cR (idxA s) [],bt,bt,bt,bt,bt,bt,bf,ee] []=.ok (.ret (iA (-1)) [],[ee],(decide ((↑(idx s):Int)<(↑(encVs l).length:Int))=false)::(d6 (idxOk s=true) [MZ W 56 [.str s] [] (.ret (.tup [iA (↑(idx s):Int),bA (idxOk s)]) []),decide (h.kind=5)=true,decide (h.kind=6)=false])):=kr
theorem p137_3 (W:World) (h:JH) (l:List JV) (s:List UInt8):sF W {lp:=true,tl:=[56,97]} 76 [eV h l,.str s] [] 100000 [bf,bt,ee,cR (idxA s) [],bf,bf,bf,bf,bf,bf,ee] []=.ok (.ret (iA (-1)) [],[aE 9999999],d6 (idxOk s=false) [MZ W 56 [.str s] [] (.ret (.tup [iA (↑(idx s):Int),bA (idxOk s)]) []),decide (h.kind=5)=true,decide (h.kind=6)=false]):=kr
theorem p137_4 (W:World) (h:JH) (l:List JV) (s:List UInt8):sF W {lp:=true,tl:=[56,97]} 76 [eV h l,.str s] [] 100000 [bf,bf,ee] []=.ok (.ret (iA (-1)) [],[ee],[decide (h.kind=5)=false,decide (h.kind=6)=false]):=kr
theorem call116:callable Tryz.prog 59=true:=kr
theorem call68:callable Tryz.prog 61=true:=kr
theorem call164:callable Tryz.prog 97=true:=kr
theorem call137:callable Tryz.prog 76=true:=kr
theorem goB {W:World} {f:FuncId} {As:List AV} {r r':AV} (e:r=r') (hc:r.clo=true) (h:MutC Tryz.prog W f As [] (.ret r [])):Pure Tryz.prog W f As r':=by subst e;exact pure_of_mut hc h
theorem segment116 (W:World) (s:List UInt8):Pure Tryz.prog W 59 [.str s] (bA (segB s)):=by
 cases s with
 | nil=>exact goB rfl rfl (mut_of_sfun mixedz call116 rfl (p116_4 W []) Fb2_z4)
 | cons c t =>
  by_cases h1:((c::t).length:Int)<=64
  case neg=>exact goB (by rw [segB_cons,decide_eq_false (by simp only [List.length_cons] at h1;omega)]<;>rfl) rfl (mut_of_sfun mixedz call116 rfl (p116_3 W (c::t)) Fb2_z4)
  by_cases h2:[46]=c::t
  ·rw [<-h2];exact goB rfl rfl (mut_of_sfun mixedz call116 rfl (p116_0 W [46]) Fb2_z4)
  have h1':t.length+1<=64:=by simp only [List.length_cons] at h1;omega
  by_cases h3:0<=ixbB (c::t) (UInt8.ofNat 46)
  ·have h3':¬ Lib.indexByte (c::t) 46<0:=by rw [ixbB_eq Tryz.prog] at h3;exact Int.not_lt.2 h3
   exact goB (by rw [segB_cons,decide_eq_true h1',decide_eq_false h3']<;>rfl) rfl (mut_of_sfun mixedz call116 rfl (p116_2 W (c::t)) (by simp only [Holds,and_true];and_intros<;>first|exact decide_eq_true (by simp only [List.length_cons];omega)|exact decide_eq_true h1|exact decide_eq_false h2|(rw [decide_eq_true h3];rfl)))
  ·have h3':Lib.indexByte (c::t) 46<0:=by rw [ixbB_eq Tryz.prog] at h3;exact Int.not_le.1 h3
   exact goB (by rw [segB_cons,decide_eq_true h1',decide_eq_true h3']<;>rfl) rfl (mut_of_sfun mixedz call116 rfl (p116_1 W (c::t) c) (by simp only [Holds,and_true];and_intros<;>first|exact decide_eq_true (by simp only [List.length_cons];omega)|exact decide_eq_true h1|exact decide_eq_false h2|(rw [decide_eq_false h3];rfl)|rfl))
section
variable (W:World) (s:List UInt8)
theorem loop68 (hl:s.length<=2 ^ 50) (hd:46 ∉ s):∀ i:Nat,i<=s.length->LoopC Tryz.prog W [] (nslots Tryz.prog 61) (loopOf Tryz.prog 61 0) (S68 s i) (.exit 0) (S68 s s.length):=by
 refine loopC_inv (fun i:Nat=>S68 s i) (fun i=>i<=s.length) (fun i=>s.length - i) (by simp) ?_
 intro i h1
 by_cases hi:i<s.length
 ·obtain ⟨x,hx⟩:=getOf hi
  left
  have hne:¬ (x.toNat:Int)=46:=fun e=>hd ((u8_eq x 46 46 rfl).1 e ▸ List.mem_of_getElem? hx)
  exact ⟨i+1,by omega,by omega,body_of_sbodyK mixedz (b68_1 W s i x) Fb2_z4 [] [] Fb2_z1⟩
 ·right
  have hil:i=s.length:=by omega
  subst hil
  exact body_of_sbodyK mixedz (b68_2 W s s.length) Fb2_z4 [] [] Fb2_z1
theorem loopR68 (hl:s.length<=2 ^ 50) (hd:46 ∈ s):∀ i:Nat,(i<=s.length/\∀ k,k<i->s[k]? ≠ some 46)->LoopC Tryz.prog W [] (nslots Tryz.prog 61) (loopOf Tryz.prog 61 0) (S68 s i) .ret (R68 false):=by
 refine loopC_inv (fun i:Nat=>S68 s i) (fun i=>i<=s.length/\∀ k,k<i->s[k]? ≠ some 46) (fun i=>s.length - i) (by simp) ?_
 rintro i ⟨h1,h2⟩
 by_cases hi:i<s.length
 ·obtain ⟨x,hx⟩:=getOf hi
  by_cases he:(x.toNat:Int)=46
  ·exact .inr (body_of_sbodyK mixedz (b68_0 W s i x) Fb2_z4 [] [] Fb2_z1)
  left
  exact ⟨i+1,⟨by omega,_root_.Go.Ac.upto_succ h2 (by rw [hx];intro e;simp only [Option.some.injEq] at e;exact he ((u8_eq x 46 46 rfl).2 e))⟩,by omega,body_of_sbodyK mixedz (b68_1 W s i x) Fb2_z4 [] [] Fb2_z1⟩
 ·exfalso
  obtain ⟨k,hk⟩:=List.getElem?_of_mem hd
  exact h2 k (by have:=(List.getElem?_eq_some_iff.1 hk).1;omega) hk
theorem segment68 (hl:s.length<=2 ^ 50):Pure Tryz.prog W 61 [.str s] (bA (segB s)):=by
 by_cases hd:46 ∈ s
 ·have hlp:=loopR68 W s hl hd 0 ⟨by omega,by intro k hk;omega⟩
  exact goB (by simp [segB,hd,bA]) rfl (mut_of_sfun mixedz call68 rfl (q68_0 W s) Fb2_z5)
 have hlp:=loop68 W s hl hd 0 (by omega)
 cases s with
 | nil=>exact goB rfl rfl (mut_of_sfun mixedz call68 rfl (p68_2 W []) Fb2_z5)
 | cons c t =>
  have hneg:Lib.indexByte (c::t) 46<0:=(indexByte_neg 46 (c::t)).2 hd
  by_cases h1:((c::t).length:Int)<=64
  case neg=>exact goB (by rw [segB_cons,decide_eq_false (by simp only [List.length_cons] at h1;omega)]<;>rfl) rfl (mut_of_sfun mixedz call68 rfl (p68_1 W (c::t)) Fb2_z5)
  have h1':t.length+1<=64:=by simp only [List.length_cons] at h1;omega
  exact goB (by rw [segB_cons,decide_eq_true h1',decide_eq_true hneg]<;>rfl) rfl (mut_of_sfun mixedz call68 rfl (p68_0 W (c::t) c) Fb2_z5)
end
section
variable (W:World) (h:JH) (l:List JV) (s:List UInt8)
theorem placeL_cases (n:Nat) (hn:n<=h.names.length):(∀ k,k<n->h.names[k]? ≠ some s)\/∃ j,j<n/\h.names[j]?=some s/\∀ k,k<j->h.names[k]? ≠ some s:=by
 induction n with
 | zero=>exact .inl fun k hk=>by omega
 | succ n ih =>
  rcases ih (by omega) with h1|⟨j,h1,h2,h3⟩
  ·by_cases e:h.names[n]?=some s
   ·exact .inr ⟨n,by omega,e,h1⟩
   ·exact .inl (_root_.Go.Ac.upto_succ h1 e)
  ·exact .inr ⟨j,by omega,h2,h3⟩
theorem mem_mk:(JV.mk h l).mem=if l.length<h.names.length then l.length else h.names.length:=rfl
theorem mem_min:(if ((encVs l).length:Int)<((h.names.map AV.str).length:Int) then ((encVs l).length:Int) else ((h.names.map AV.str).length:Int))=((JV.mk h l).mem:Nat):=by
 rw [mem_mk];simp only [encVs_len,List.length_map]
 by_cases hlt:l.length<h.names.length
 ·rw [if_pos (by omega),if_pos hlt]
 ·rw [if_neg (by omega),if_neg hlt]
theorem loop164 (hl:h.names.length<=2 ^ 50) {m:Nat} (hm:m<=h.names.length) (hno:∀ k,k<m->h.names[k]? ≠ some s):∀ i:Nat,i<=m->LoopC Tryz.prog W [] (nslots Tryz.prog 97) (loopOf Tryz.prog 97 0) (S164 h l s m i) (.exit 0) (S164 h l s m m):=by
 refine loopC_inv (fun i:Nat=>S164 h l s m i) (fun i=>i<=m) (fun i=>m - i) (by simp) ?_
 intro i h1
 by_cases hi:i<m
 ·obtain ⟨x,hx⟩:=getOf (l:=h.names) (i:=i) (by omega)
  left
  have hne:¬ x=s:=fun e=>hno i hi (by rw [hx,e])
  exact ⟨i+1,by omega,by omega,body_of_sbodyK mixedz (b164_1 W h l s m i x) Fb2_z4 [] [] Fb2_z1⟩
 ·right
  have hil:i=m:=by omega
  subst hil
  exact body_of_sbodyK mixedz (b164_2 W h l s i i) Fb2_z4 [] [] Fb2_z1
theorem loopR164 (hl:h.names.length<=2 ^ 50) {m j:Nat} (hm:m<=h.names.length) (hj:j<m) (hs:h.names[j]?=some s) (hno:∀ k,k<j->h.names[k]? ≠ some s):∀ i:Nat,i<=j->LoopC Tryz.prog W [] (nslots Tryz.prog 97) (loopOf Tryz.prog 97 0) (S164 h l s m i) .ret (R164 j):=by
 refine loopC_inv (fun i:Nat=>S164 h l s m i) (fun i=>i<=j) (fun i=>m - i) (by simp) ?_
 intro i h1
 obtain ⟨x,hx⟩:=getOf (l:=h.names) (i:=i) (by omega)
 by_cases hi:i<j
 ·left
  have hne:¬ x=s:=fun e=>hno i hi (by rw [hx,e])
  exact ⟨i+1,by omega,by omega,body_of_sbodyK mixedz (b164_1 W h l s m i x) Fb2_z4 [] [] Fb2_z1⟩
 ·right
  have hil:i=j:=by omega
  subst hil
  have he:x=s:=by rw [hs] at hx;exact (Option.some.inj hx).symm
  exact body_of_sbodyK mixedz (b164_0 W h l s m i x) Fb2_z4 [] [] Fb2_z1
theorem place164 (hl:h.names.length<=2 ^ 50):Pure Tryz.prog W 97 [encV (.mk h l),.str s] (iA ((JV.mk h l).place s)):=by
 have hmm:=JV.mem_names (.mk h l)
 simp only [JV.names,JV.hd] at hmm
 have hme:=mem_min h l
 rcases placeL_cases h s (JV.mk h l).mem hmm with h1|⟨j,h1,h2,h3⟩
 ·have hlp:=loop164 W h l s hl hmm h1 0 (by omega)
  exact goB (by rw [show (JV.mk h l).place s=-1 from placeL_none s (JV.mk h l).names _ 0 h1]<;>rfl) rfl (mut_of_sfun mixedz call164 rfl (p164_0 W h l s (JV.mk h l).mem) Fb2_z5)
 ·have hlp:=loopR164 W h l s hl hmm h1 h2 h3 0 (by omega)
  exact goB (by rw [show (JV.mk h l).place s=((0+j:Nat):Int) from placeL_some s (JV.mk h l).names _ 0 j h1 h2 h3,Nat.zero_add]<;>rfl) rfl (mut_of_sfun mixedz call164 rfl (q164_0 W h l s (JV.mk h l).mem j) Fb2_z5)
end
end Go.Ac

namespace Go.Ac
open Go Go.Proofs
set_option maxRecDepth 10000
set_option maxHeartbeats 1000000
theorem Fb3_z1 {kp f ph σ σ'} (h:MatchK kp f ph σ σ':=by exact ⟨by rfl,(by simp only [S162,S91,R91,tOK,List.map_cons,List.map_nil,and_true]<;>exact zt),(by simp only [S162,S91,R91,hOK,List.map_cons,List.map_nil,and_true]<;>exact zh),(by simp only [S162,S91,R91,liveT,List.map_cons,List.map_nil,and_true]<;>exact zv),(by simp only [S162,S91,R91,liveH,List.map_cons,List.map_nil,and_true]<;>exact zv)⟩):MatchK kp f ph σ σ':=h
theorem Fb3_z4 {cs} (h:Holds cs:=by simp only [Holds,and_true]<;>and_intros<;>first|exact zd|(simp only [Bool.not_eq_true',decide_eq_false_iff_not,Bool.not_eq_false',decide_eq_true_eq,List.length_map,encVs_len,List.length_cons,bytesA];first|assumption|omega;done)):Holds cs:=h
theorem Fb3_z5 {cs} (h:Holds cs:=by simp only [Holds,and_true]<;>and_intros<;>first|exact zd|(simp only [Bool.not_eq_true',decide_eq_false_iff_not,Bool.not_eq_false',decide_eq_true_eq,List.length_map,encVs_len,List.length_cons,bytesA];first|assumption|omega;done)|exact Fb3_z1):Holds cs:=h
def S162 (s:List UInt8) (n i:Int):AS:=⟨[(5,.str s),(6,iA n),(47,.sl 1 (bytesA s) []),(48,iA (bytesA s).length),(49,iA i)],[]⟩
def S91 (s:List UInt8) (i:Int):AS:=⟨[(0,.str s),(25,iA s.length),(26,iA i)],[]⟩
def R91:AS:=⟨[(2,.val (.int .i64 0)),(3,.val (.bool false))],[]⟩
theorem b162_0 (W:World) (s:List UInt8) (x:UInt8) (n i:Int):sQ W {lp:=true} 103 0 [] [5,6,47,48,49] (S162 s n i) [bt,.lg,oS (.val (Value.int IntKind.u8 (x.toNat:Int))),bf,ee]=.ok ((.normal,{t:=[(5,.str s),(6,iA (IntKind.i64.wrap (IntKind.i64.wrap (n * 10)+IntKind.i64.wrap (IntKind.u8.wrap ((x.toNat:Int) - 48))))),(47,sL 1 (bytesA s)),(48,iA (↑(bytesA s).length:Int)),(49,iA (IntKind.i64.wrap (i+1)))],h:=[]}),[ee],[decide (9<IntKind.u8.wrap ((x.toNat:Int) - 48))=false,(bytesA s)[i.toNat]?=some (AV.val (Value.int IntKind.u8 (x.toNat:Int))),0<=i,decide (i<(↑(bytesA s).length:Int))=true]):=kr
theorem b162_1 (W:World) (s:List UInt8) (n i:Int):sbodyM Tryz.prog W {lp:=true} 103 0 [] (S162 s n i) [bf,ee]=.ok ((.exit 0,{t:=[(5,.str s),(6,iA n),(47,sL 1 (bytesA s)),(48,iA (↑(bytesA s).length:Int)),(49,iA i),(50,bA (decide (i<(↑(bytesA s).length:Int))))],h:=[]}),[ee],[decide (i<(↑(bytesA s).length:Int))=false]):=kr
theorem p162_0 (W:World) (s:List UInt8) (x:UInt8) (n:Int):sF W {lp:=true} 103 [.str s] [] 100000 [aE 9,bt,bt,aE 1,bt,aE 3,bt,aE 1,Ans.byt (some x),bf,bf,aE 1,Ans.byt (some x),bf,bf,bf,.lg,ee,.loopM [] [] (S162 s 0 0) (.exit 0) (S162 s n (s.length:Int)),aE 1,Ans.byt (some x),bf,ee] []=.ok (.ret (.tup [iA n,.val Value.nilIface]) [],[ee],(decide ((x.toNat:Int)=45)=false)::(s[0]?=some x)::LZ W [] 103 0 (S162 s 0 0) (.exit 0) (S162 s n (s.length:Int))::MatchK [] [] [] {t:=[(5,.str s),(6,iA 0),(47,sL 1 (bytesA s)),(48,iA (↑(bytesA s).length:Int)),(49,iA 0)],h:=[]} (S162 s 0 0)::(s.length<=9223372036854775807)::(decide ((x.toNat:Int)=43)=false)::(d2 (decide ((x.toNat:Int)=45)=false) ((s[0]?=some x)::(d2 (decide ((x.toNat:Int)=45)=false) ((s[0]?=some x)::(decide ((s.length:Int)<19)=true)::(d3 (decide (0<(s.length:Int))=true) [])))))):=kr
theorem p135_0 (W:World) (s:List UInt8) (n:Int):sF W {lp:=true,tl:=[103]} 87 [.str s] [] 100000 [ee,cR (.tup [iA n,.val Value.nilIface]) [],ee] []=.ok (.ret (.tup [iA n,.val Value.nilIface]) [],[aE 9999999],[MZ W 103 [.str s] [] (.ret (.tup [iA n,.val Value.nilIface]) [])]):=kr
theorem b91_0 (W:World) (s:List UInt8) (x:UInt8) (i:Int):sQ W {lp:=true} 56 0 [] [0,2,3,25,26] (S91 s i) [bt,.lg,Ans.byt (some x),bt,bt,bt,bt,bt,ee]=.ok ((.ret,{t:=[(0,.str s),(2,iA 0),(3,bA false),(25,iA (s.length:Int)),(26,iA i)],h:=[]}),[aE 9999999],(decide ((x.toNat:Int)<48)=true)::(d4 (decide ((x.toNat:Int)<48)=true) [s[i.toNat]?=some x,0<=i,decide (i<(s.length:Int))=true])):=kr
theorem b91_1 (W:World) (s:List UInt8) (x:UInt8) (i:Int):sQ W {lp:=true} 56 0 [] [0,2,3,25,26] (S91 s i) [bt,.lg,Ans.byt (some x),bf,bf,bf,.lg,Ans.byt (some x),bf,bf,bt,ee]=.ok ((.ret,{t:=[(0,.str s),(2,iA 0),(3,bA false),(25,iA (s.length:Int)),(26,iA i)],h:=[]}),[ee],(decide (57<(x.toNat:Int))=true)::(d2 (decide ((x.toNat:Int)<48)=false) ((s[i.toNat]?=some x)::(0<=i)::(d3 (decide ((x.toNat:Int)<48)=false) [s[i.toNat]?=some x,0<=i,decide (i<(s.length:Int))=true])))):=kr
theorem b91_2 (W:World) (s:List UInt8) (x:UInt8) (i:Int):sQ W {lp:=true} 56 0 [] [0,2,3,25,26] (S91 s i) [bt,.lg,Ans.byt (some x),bf,bf,bf,.lg,Ans.byt (some x),bf,bf,bf,ee]=.ok ((.normal,{t:=[(0,.str s),(25,iA (s.length:Int)),(26,iA (IntKind.i64.wrap (i+1)))],h:=[]}),[ee],(decide (57<(x.toNat:Int))=false)::(d2 (decide ((x.toNat:Int)<48)=false) ((s[i.toNat]?=some x)::(0<=i)::(d3 (decide ((x.toNat:Int)<48)=false) [s[i.toNat]?=some x,0<=i,decide (i<(s.length:Int))=true])))):=kr
theorem b91_3 (W:World) (s:List UInt8) (i:Int):sQ W {lp:=true} 56 0 [] [0,2,3,25,26] (S91 s i) [bf,ee]=.ok ((.exit 0,{t:=[(0,.str s),(25,iA (s.length:Int)),(26,iA i)],h:=[]}),[ee],[decide (i<(s.length:Int))=false]):=kr
theorem p91_0 (W:World) (s:List UInt8):sF W {lp:=true,tl:=[87]} 56 [.str s] [] 100000 [bt,bt,bt,bt,ee] []=.ok (.ret (.tup [iA 0,bA false]) [],[aE 9999993],d4 (decide ((s.length:Int)<1)=true) []):=kr
theorem p91_1 (W:World) (s:List UInt8):sF W {lp:=true,tl:=[87]} 56 [.str s] [] 100000 [bf,bf,bf,bf,bt,bt,bt,bt,bt,bt,ee] []=.ok (.ret (.tup [iA 0,bA false]) [],[aE 9999999],d6 (decide (9<(s.length:Int))=true) (d4 (decide ((s.length:Int)<1)=false) [])):=kr
theorem p91_2 (W:World) (s:List UInt8) (x:UInt8):sF W {lp:=true,tl:=[87]} 56 [.str s] [] 100000 [bf,bf,bf,bf,bf,bf,aE 1,Ans.byt (some x),bf,bf,bt,bt,bf,bt,bf,bt,ee] []=.ok (.ret (.tup [iA 0,bA false]) [],[ee],((!decide (s=[48]))=true)::(decide (9<(s.length:Int))=false)::(decide ((x.toNat:Int)=48)=true)::(decide (9<(s.length:Int))=false)::(d2 (decide ((x.toNat:Int)=48)=true) (d2 (decide (9<(s.length:Int))=false) ((s[0]?=some x)::(d2 (decide (9<(s.length:Int))=false) (d4 (decide ((s.length:Int)<1)=false) [])))))):=kr
theorem p91_3 (W:World) (s:List UInt8) (x:UInt8) (n:Int):sF W {lp:=true,tl:=[87]} 56 [.str s] [] 100000 [bf,bf,bf,bf,bf,bf,aE 1,Ans.byt (some x),bf,bf,bt,bt,bf,bt,bf,bf,ee,.loopM [] [] (S91 s 0) (.exit 0) (S91 s (s.length:Int)),ee,cR (.tup [iA n,.val Value.nilIface]) [],ee] []=.ok (.ret (.tup [iA n,bA true]) [],[ee],MZ W 87 [.str s] [] (.ret (.tup [iA n,.val Value.nilIface]) [])::LZ W [] 56 0 (S91 s 0) (.exit 0) (S91 s (s.length:Int))::MatchK [] [] [] {t:=[(0,.str s),(25,iA (s.length:Int)),(26,iA 0)],h:=[]} (S91 s 0)::((!decide (s=[48]))=false)::(decide (9<(s.length:Int))=false)::(decide ((x.toNat:Int)=48)=true)::(decide (9<(s.length:Int))=false)::(d2 (decide ((x.toNat:Int)=48)=true) (d2 (decide (9<(s.length:Int))=false) ((s[0]?=some x)::(d2 (decide (9<(s.length:Int))=false) (d4 (decide ((s.length:Int)<1)=false) [])))))):=kr
theorem p91_4 (W:World) (s:List UInt8) (x:UInt8) (n:Int):sF W {lp:=true,tl:=[87]} 56 [.str s] [] 100000 [bf,bf,bf,bf,bf,bf,aE 1,Ans.byt (some x),bf,bf,bf,bf,bf,bf,bf,ee,.loopM [] [] (S91 s 0) (.exit 0) (S91 s (s.length:Int)),ee,cR (.tup [iA n,.val Value.nilIface]) [],ee] []=.ok (.ret (.tup [iA n,bA true]) [],[ee],MZ W 87 [.str s] [] (.ret (.tup [iA n,.val Value.nilIface]) [])::LZ W [] 56 0 (S91 s 0) (.exit 0) (S91 s (s.length:Int))::MatchK [] [] [] {t:=[(0,.str s),(25,iA (s.length:Int)),(26,iA 0)],h:=[]} (S91 s 0)::(decide (9<(s.length:Int))=false)::(decide ((x.toNat:Int)=48)=false)::(decide (9<(s.length:Int))=false)::(d2 (decide ((x.toNat:Int)=48)=false) (d2 (decide (9<(s.length:Int))=false) ((s[0]?=some x)::(d2 (decide (9<(s.length:Int))=false) (d4 (decide ((s.length:Int)<1)=false) [])))))):=kr
theorem q91_3 (W:World) (s:List UInt8) (x:UInt8):sF W {lp:=true,tl:=[87]} 56 [.str s] [] 100000 [bf,bf,bf,bf,bf,bf,aE 1,Ans.byt (some x),bf,bf,bt,bt,bf,bt,bf,bf,ee,.loopM [] [] (S91 s 0) .ret R91,ee] []=.ok (.ret (.tup [iA 0,bA false]) [],[ee],LZ W [] 56 0 (S91 s 0) .ret R91::MatchK [] [] [] {t:=[(0,.str s),(25,iA (s.length:Int)),(26,iA 0)],h:=[]} (S91 s 0)::((!decide (s=[48]))=false)::(decide (9<(s.length:Int))=false)::(decide ((x.toNat:Int)=48)=true)::(decide (9<(s.length:Int))=false)::(d2 (decide ((x.toNat:Int)=48)=true) (d2 (decide (9<(s.length:Int))=false) ((s[0]?=some x)::(d2 (decide (9<(s.length:Int))=false) (d4 (decide ((s.length:Int)<1)=false) [])))))):=kr
theorem q91_4 (W:World) (s:List UInt8) (x:UInt8):sF W {lp:=true,tl:=[87]} 56 [.str s] [] 100000 [bf,bf,bf,bf,bf,bf,aE 1,Ans.byt (some x),bf,bf,bf,bf,bf,bf,bf,ee,.loopM [] [] (S91 s 0) .ret R91,ee] []=.ok (.ret (.tup [iA 0,bA false]) [],[ee],LZ W [] 56 0 (S91 s 0) .ret R91::MatchK [] [] [] {t:=[(0,.str s),(25,iA (s.length:Int)),(26,iA 0)],h:=[]} (S91 s 0)::(decide (9<(s.length:Int))=false)::(decide ((x.toNat:Int)=48)=false)::(decide (9<(s.length:Int))=false)::(d2 (decide ((x.toNat:Int)=48)=false) (d2 (decide (9<(s.length:Int))=false) ((s[0]?=some x)::(d2 (decide (9<(s.length:Int))=false) (d4 (decide ((s.length:Int)<1)=false) [])))))):=kr
theorem call162:callable Tryz.prog 103=true:=kr
theorem call135:callable Tryz.prog 87=true:=kr
theorem call91:callable Tryz.prog 56=true:=kr
theorem bytes_get {s:List UInt8} {i:Nat} {x:UInt8} (h:s[i]?=some x):(bytesA s)[i]?=some (.val (.int .u8 x.toNat)):=by simp [bytesA,h]
section
variable (W:World) (s:List UInt8)
theorem dig_bd {x:UInt8} (h:dig x=true):¬ ((x.toNat:Int)<48)/\¬ (57<(x.toNat:Int)):=by simp only [dig,Bool.and_eq_true,decide_eq_true_eq] at h;omega
theorem loop162 (hl:s.length<=9) (hd:s.all dig=true):∀ i:Nat,i<=s.length->LoopC Tryz.prog W [] (nslots Tryz.prog 103) (loopOf Tryz.prog 103 0) (S162 s (numL (s.take i) 0) i) (.exit 0) (S162 s (numL s 0) s.length):=by
 refine loopC_inv (fun i:Nat=>S162 s (numL (s.take i) 0) i) (fun i=>i<=s.length) (fun i=>s.length - i) (by simp) ?_
 intro i h1
 have hbl:(bytesA s).length=s.length:=by simp [bytesA]
 by_cases hi:i<s.length
 ·obtain ⟨x,hx⟩:=getOf hi
  left
  have hdx:=dig_bd (List.all_eq_true.1 hd x (List.mem_of_getElem? hx))
  have hdi:(s.take i).all dig=true:=List.all_eq_true.2 fun y hy=>List.all_eq_true.1 hd y (List.mem_of_mem_take hy)
  have hn:=num_step hx (by omega) hdi (by omega) (by omega)
  rw [Int.mul_comm] at hn
  have hw:IntKind.u8.wrap ((x.toNat:Int) - 48)=(x.toNat:Int) - 48:=IntWalk.u8_in _ (by omega)
  have h9:decide (9<IntKind.u8.wrap ((x.toNat:Int) - 48))=false:=by rw [hw];exact decide_eq_false (by omega)
  exact ⟨i+1,by omega,by omega,body_of_sbodyK mixedz (b162_0 W s x _ i) Fb3_z4 [] [] Fb3_z1⟩
 ·right
  have hil:i=s.length:=by omega
  subst hil
  rw [List.take_length]
  exact body_of_sbodyM mixedz (b162_1 W s _ s.length) Fb3_z4 [] [] Fb3_z1
theorem atoi162 (h0:s ≠ []) (hl:s.length<=9) (hd:s.all dig=true):Pure Tryz.prog W 103 [.str s] (.tup [iA (numL s 0),.val .nilIface]):=by
 have hp:0<s.length:=List.length_pos_iff.2 h0
 obtain ⟨x,hx⟩:=getOf (l:=s) (i:=0) hp
 have hdx:=dig_bd (List.all_eq_true.1 hd x (List.mem_of_getElem? hx))
 have hlp:=loop162 W s hl hd 0 (by omega)
 rw [List.take_zero] at hlp
 exact goB rfl rfl (mut_of_sfun mixedz call162 rfl (p162_0 W s x (numL s 0)) Fb3_z5)
theorem atoi135 (h0:s ≠ []) (hl:s.length<=9) (hd:s.all dig=true):Pure Tryz.prog W 87 [.str s] (.tup [iA (numL s 0),.val .nilIface]):=by
 have hc:=mut_of_pure (by rfl) (atoi162 W s h0 hl hd)
 exact goB rfl rfl (mut_of_sfun mixedz call135 rfl (p135_0 W s (numL s 0)) Fb3_z4)
theorem loop91 (hl:s.length<=9) (hd:s.all dig=true):∀ i:Nat,i<=s.length->LoopC Tryz.prog W [] (nslots Tryz.prog 56) (loopOf Tryz.prog 56 0) (S91 s i) (.exit 0) (S91 s s.length):=by
 refine loopC_inv (fun i:Nat=>S91 s i) (fun i=>i<=s.length) (fun i=>s.length - i) (by simp) ?_
 intro i h1
 by_cases hi:i<s.length
 ·obtain ⟨x,hx⟩:=getOf hi
  left
  have hdx:=dig_bd (List.all_eq_true.1 hd x (List.mem_of_getElem? hx))
  exact ⟨i+1,by omega,by omega,body_of_sbodyK mixedz (b91_2 W s x i) Fb3_z4 [] [] Fb3_z1⟩
 ·right
  have hil:i=s.length:=by omega
  subst hil
  exact body_of_sbodyK mixedz (b91_3 W s s.length) Fb3_z4 [] [] Fb3_z1
theorem loopR91 (hd:s.all dig=false) (hl:s.length<=9):∀ i:Nat,(i<=s.length/\(s.take i).all dig=true)->LoopC Tryz.prog W [] (nslots Tryz.prog 56) (loopOf Tryz.prog 56 0) (S91 s i) .ret R91:=by
 refine loopC_inv (fun i:Nat=>S91 s i) (fun i=>i<=s.length/\(s.take i).all dig=true) (fun i=>s.length - i) (by simp) ?_
 rintro i ⟨h1,h2⟩
 by_cases hi:i<s.length
 ·obtain ⟨x,hx⟩:=getOf hi
  by_cases hlo:(x.toNat:Int)<48
  ·exact .inr (body_of_sbodyK mixedz (b91_0 W s x i) Fb3_z4 [] [] Fb3_z1)
  by_cases hhi:57<(x.toNat:Int)
  ·exact .inr (body_of_sbodyK mixedz (b91_1 W s x i) Fb3_z4 [] [] Fb3_z1)
  left
  exact ⟨i+1,⟨by omega,all_take hx h2 (dig_in hlo hhi)⟩,by omega,body_of_sbodyK mixedz (b91_2 W s x i) Fb3_z4 [] [] Fb3_z1⟩
 ·exfalso
  rw [List.take_of_length_le (by omega),hd] at h2;cases h2
theorem index91:Pure Tryz.prog W 56 [.str s] (idxA s):=by
 by_cases h1:(s.length:Int)<1
 ·exact goB (idxA_bad (idxOk_short h1)) rfl (mut_of_sfun mixedz call91 rfl (p91_0 W s) Fb3_z4)
 by_cases h2:9<(s.length:Int)
 ·exact goB (idxA_bad (idxOk_long h2)) rfl (mut_of_sfun mixedz call91 rfl (p91_1 W s) Fb3_z4)
 obtain ⟨x,hx⟩:=getOf (l:=s) (i:=0) (by omega)
 have hx0:(s.headD 0)=x:=by cases s with
  | nil=>simp at hx
  | cons a l=>simpa using hx
 by_cases h3:(x.toNat:Int)=48/\¬ s=[48]
 ·obtain ⟨h4,h3⟩:=h3
  exact goB (idxA_bad (idxOk_zero2 h1 h3 (by rw [hx0];exact h4))) rfl (mut_of_sfun mixedz call91 rfl (p91_2 W s x) Fb3_z4)
 have h3':¬ 1<(s.length:Int)\/¬ ((s.headD 0).toNat:Int)=48:=by
  rw [hx0]
  by_cases e:(x.toNat:Int)=48
  ·left
   have e2:s=[48]:=Classical.byContradiction fun q=>h3 ⟨e,q⟩
   rw [e2];simp
  ·exact .inr e
 by_cases hd:s.all dig=true
 ·have hlp:=loop91 W s (by omega) hd 0 (by omega)
  have hg:=idxOk_good h1 h2 h3' hd
  have hc:=mut_of_pure (by rfl) (atoi135 W s (by rintro rfl;simp at h1) (by omega) hd)
  by_cases h5:(x.toNat:Int)=48
  ·have h6:s=[48]:=Classical.byContradiction fun q=>h3 ⟨h5,q⟩
   have h7:(!decide (s=[48]))=false:=by rw [decide_eq_true h6];rfl
   exact goB (idxA_good hg rfl) rfl (mut_of_sfun mixedz call91 rfl (p91_3 W s x (numL s 0)) Fb3_z5)
  ·exact goB (idxA_good hg rfl) rfl (mut_of_sfun mixedz call91 rfl (p91_4 W s x (numL s 0)) Fb3_z5)
 ·have hd':s.all dig=false:=by simpa using hd
  have hlp:=loopR91 W s hd' (by omega) 0 ⟨by omega,by simp⟩
  obtain ⟨y,hy,hyd⟩:=List.all_eq_false.1 hd'
  obtain ⟨k,hk⟩:=List.getElem?_of_mem hy
  have hb:=idxOk_dig hk (by simpa using hyd)
  by_cases h5:(x.toNat:Int)=48
  ·have h6:s=[48]:=Classical.byContradiction fun q=>h3 ⟨h5,q⟩
   have h7:(!decide (s=[48]))=false:=by rw [decide_eq_true h6];rfl
   exact goB (idxA_bad hb) rfl (mut_of_sfun mixedz call91 rfl (q91_3 W s x) Fb3_z5)
  ·exact goB (idxA_bad hb) rfl (mut_of_sfun mixedz call91 rfl (q91_4 W s x) Fb3_z5)
end
theorem child137 (W:World) (h:JH) (l:List JV) (s:List UInt8) (hl:h.names.length<=2 ^ 50):Pure Tryz.prog W 76 [encV (.mk h l),.str s] (iA ((JV.mk h l).child s)):=by
 have hc:=mut_of_pure (by rfl) (index91 W s)
 by_cases hk:h.kind=6
 ·have e1:(JV.mk h l).child s=(JV.mk h l).place s:=child_obj hk
  rw [e1]
  have hc2:=mut_of_pure (by simp only [cloL,encV_clo];rfl) (place164 W h l s hl)
  exact goB rfl rfl (mut_of_sfun mixedz call137 rfl (p137_0 W h l s ((JV.mk h l).place s)) Fb3_z4)
 by_cases hk5:h.kind=5
 case neg=>exact goB (by rw [child_none (j:=.mk h l) hk (by rintro ⟨q,_⟩;exact hk5 q)]<;>rfl) rfl (mut_of_sfun mixedz call137 rfl (p137_4 W h l s) Fb3_z4)
 cases hx:idxOk s with
 | false=>exact goB (by rw [child_none (j:=.mk h l) hk (by rintro ⟨_,q,_⟩;rw [hx] at q;cases q)]<;>rfl) rfl (mut_of_sfun mixedz call137 rfl (p137_3 W h l s) Fb3_z4)
 | true =>
  by_cases hi:(idx s:Int)<(l.length:Int)
  ·exact goB (by rw [child_ix (j:=.mk h l) hk5 hx hi]<;>rfl) rfl (mut_of_sfun mixedz call137 rfl (p137_1 W h l s) Fb3_z4)
  ·exact goB (by rw [child_none (j:=.mk h l) hk (by rintro ⟨_,_,q⟩;exact hi q)]<;>rfl) rfl (mut_of_sfun mixedz call137 rfl (p137_2 W h l s) Fb3_z4)
end Go.Ac

namespace Go.Ac
open Go Go.Proofs
set_option maxRecDepth 10000
set_option maxHeartbeats 1000000
theorem Fb4_z1 {kp f ph σ σ'} (h:MatchK kp f ph σ σ':=by exact ⟨by rfl,(by simp only [S152,tOK,List.map_cons,List.map_nil,and_true]<;>exact zt),(by simp only [S152,hOK,List.map_cons,List.map_nil,and_true]<;>exact zh),(by simp only [S152,liveT,List.map_cons,List.map_nil,and_true]<;>exact zv),(by simp only [S152,liveH,List.map_cons,List.map_nil,and_true]<;>exact zv)⟩):MatchK kp f ph σ σ':=h
theorem Fb4_z5 {cs} (h:Holds cs:=by simp only [Holds,and_true]<;>and_intros<;>first|exact zd):Holds cs:=h
theorem Fb4_z6 {cs} (h:Holds cs:=by simp only [Holds,and_true]<;>and_intros<;>first|exact zd|exact Fb4_z1):Holds cs:=h
def padA (A:List (List UInt8)) (i:Nat):List AV:=(A.take i).map AV.str++List.replicate (A.length - i) (AV.str [])
def S152 (A:List (List UInt8)) (u:List UInt8) (i:Nat):AS:=⟨[(0,.str u),(1,.str [46]),(2,iA 0),(3,iA ((A.length:Int) - 1)),(9,.gs 100000 0 A.length),(10,iA i)],[(100000,.arr 9 1 (padA A i) .own)]⟩
theorem b152_0 (W:World) (A:List (List UInt8)) (u:List UInt8) (i:Nat):sQ W {lp:=true} 88 0 [] [0,1,2,3,9,10] (S152 A u i) [bt,aE 6,bt,aE 3,.lg,oS (.str []),aE 1,.lg,ee]=.ok ((.normal,{t:=[(0,.str (List.drop 1 (List.take (↑(defLen (.str u)):Int).toNat u))),(1,.str [46]),(2,iA 0),(3,iA ((A.length:Int) - 1)),(9,.gs 100000 0 A.length),(10,iA (IntKind.i64.wrap ((i:Int)+1)))],h:=[(100000,.arr 9 1 ((padA A i).set (0+(i:Int).toNat) (.str [])) .own)]}),[ee],[1<=(↑(defLen (.str u)):Int)/\(↑(defLen (.str u)):Int)<=(u.length:Int),(padA A i)[0+(i:Int).toNat]?=some (AV.str []),0<=(i:Int)/\(i:Int)<(A.length:Int),decide ([46]=u)=true,decide ((i:Int)<(A.length:Int) - 1)=true]):=kr
theorem b152_2 (W:World) (A:List (List UInt8)) (u:List UInt8) (i:Nat):sQ W {lp:=true} 88 0 [] [0,1,2,3,9,10] (S152 A u i) [bt,aE 6,bf,aE 4,bf,.lg,.lg,.lg,oS (.str []),.lg,.lg,ee]=.ok ((.normal,{t:=[(0,.str (List.drop (IntKind.i64.wrap (ixbB u (UInt8.ofNat 46)+1)).toNat (List.take (↑(defLen (.str u)):Int).toNat u))),(1,.str [46]),(2,iA 0),(3,iA ((A.length:Int) - 1)),(9,.gs 100000 0 A.length),(10,iA (IntKind.i64.wrap ((i:Int)+1)))],h:=[(100000,.arr 9 1 ((padA A i).set (0+(i:Int).toNat) (.str (List.drop 0 (List.take (IntKind.i64.wrap (ixbB u (UInt8.ofNat 46)+0)).toNat u)))) .own)]}),[ee],[IntKind.i64.wrap (ixbB u (UInt8.ofNat 46)+1)<=(↑(defLen (.str u)):Int)/\(↑(defLen (.str u)):Int)<=(u.length:Int),0<=IntKind.i64.wrap (ixbB u (UInt8.ofNat 46)+1)/\0<=(↑(defLen (.str u)):Int),(padA A i)[0+(i:Int).toNat]?=some (AV.str []),0<=(i:Int)/\(i:Int)<(A.length:Int),0<=IntKind.i64.wrap (ixbB u (UInt8.ofNat 46)+0)/\IntKind.i64.wrap (ixbB u (UInt8.ofNat 46)+0)<=(u.length:Int),(0:Int)<=0/\0<=IntKind.i64.wrap (ixbB u (UInt8.ofNat 46)+0),decide (ixbB u (UInt8.ofNat 46)<0)=false,decide ([46]=u)=false,decide ((i:Int)<(A.length:Int) - 1)=true]):=kr
theorem b152_3 (W:World) (A:List (List UInt8)) (u:List UInt8) (i:Nat):sbodyM Tryz.prog W {lp:=true} 88 0 [] (S152 A u i) [bf,ee]=.ok ((.exit 0,{t:=[(0,.str u),(1,.str [46]),(2,iA 0),(3,iA ((A.length:Int) - 1)),(9,.gs 100000 0 A.length),(10,iA (i:Int)),(34,iA (i:Int)),(35,iA ((A.length:Int) - 1)),(36,bA (decide ((i:Int)<(A.length:Int) - 1)))],h:=[(100000,.arr 9 1 (padA A i) .own)]}),[ee],[decide ((i:Int)<(A.length:Int) - 1)=false]):=kr
theorem p152_0 (W:World) (s:List UInt8) (A:List (List UInt8)) (u:List UInt8) (i:Nat):sF W {lp:=true,fin:=9} 88 [.str s,.str [46],iA 0,iA (-1)] [] 100000 [aE 8,.lg,.lg,ee,.loopM [] [] (S152 A s 0) (.exit 0) (S152 A u i),.lg,oS (.str []),.lg,.lg,ee,.fin [] [] (.gs 100000 0 A.length) [(100000,.arr 9 1 (List.map AV.str A) .own)],ee] []=.ok (.ret (.gs 100000 0 A.length) [(100000,.arr 9 1 (List.map AV.str A) .own)],[ee],[MatchK [] [] [] {t:=[(0,.gs 100000 0 ((IntKind.i64.wrap ((i:Int)+1)).toNat - 0))],h:=[(100000,.arr 9 1 ((padA A i).set (0+(i:Int).toNat) (.str u)) .own)]} {t:=[(0,.gs 100000 0 A.length)],h:=[(100000,.arr 9 1 (List.map AV.str A) .own)]},0<=IntKind.i64.wrap ((i:Int)+1)/\IntKind.i64.wrap ((i:Int)+1)<=(A.length:Int),(0:Int)<=0/\0<=IntKind.i64.wrap ((i:Int)+1),(padA A i)[0+(i:Int).toNat]?=some (AV.str []),0<=(i:Int)/\(i:Int)<(A.length:Int),LZ W [] 88 0 (S152 A s 0) (.exit 0) (S152 A u i),MatchK [] [] [] {t:=[(0,.str s),(1,.str [46]),(2,iA 0),(3,iA (IntKind.i64.wrap ((if IntKind.i64.wrap ((s.length:Int)+1)<IntKind.i64.wrap (cntB s (UInt8.ofNat 46)+1) then IntKind.i64.wrap ((s.length:Int)+1) else IntKind.i64.wrap (cntB s (UInt8.ofNat 46)+1)) - 1))),(9,.gs 100000 0 (if IntKind.i64.wrap ((s.length:Int)+1)<IntKind.i64.wrap (cntB s (UInt8.ofNat 46)+1) then IntKind.i64.wrap ((s.length:Int)+1) else IntKind.i64.wrap (cntB s (UInt8.ofNat 46)+1)).toNat),(10,iA 0)],h:=[(100000,.arr 9 1 (List.replicate (if IntKind.i64.wrap ((s.length:Int)+1)<IntKind.i64.wrap (cntB s (UInt8.ofNat 46)+1) then IntKind.i64.wrap ((s.length:Int)+1) else IntKind.i64.wrap (cntB s (UInt8.ofNat 46)+1)).toNat (.str [])) .own)]} (S152 A s 0),(16 * if IntKind.i64.wrap ((s.length:Int)+1)<IntKind.i64.wrap (cntB s (UInt8.ofNat 46)+1) then IntKind.i64.wrap ((s.length:Int)+1) else IntKind.i64.wrap (cntB s (UInt8.ofNat 46)+1))<=281474976710656/\(if IntKind.i64.wrap ((s.length:Int)+1)<IntKind.i64.wrap (cntB s (UInt8.ofNat 46)+1) then IntKind.i64.wrap ((s.length:Int)+1) else IntKind.i64.wrap (cntB s (UInt8.ofNat 46)+1))<=9223372036854775807,(0<=if IntKind.i64.wrap ((s.length:Int)+1)<IntKind.i64.wrap (cntB s (UInt8.ofNat 46)+1) then IntKind.i64.wrap ((s.length:Int)+1) else IntKind.i64.wrap (cntB s (UInt8.ofNat 46)+1))/\(if IntKind.i64.wrap ((s.length:Int)+1)<IntKind.i64.wrap (cntB s (UInt8.ofNat 46)+1) then IntKind.i64.wrap ((s.length:Int)+1) else IntKind.i64.wrap (cntB s (UInt8.ofNat 46)+1))<=if IntKind.i64.wrap ((s.length:Int)+1)<IntKind.i64.wrap (cntB s (UInt8.ofNat 46)+1) then IntKind.i64.wrap ((s.length:Int)+1) else IntKind.i64.wrap (cntB s (UInt8.ofNat 46)+1)]):=kr
theorem p115_0 (W:World) (s:List UInt8) (A:List (List UInt8)):sF W {lp:=true,tl:=[88]} 58 [.str s,.str [46]] [] 100000 [ee,cR (sL 1 (List.map AV.str A)) [],ee] []=.ok (.ret (sL 1 (List.map AV.str A)) [],[ee],[MZ W 88 [.str s,.str [46],iA 0,iA (-1)] [] (.ret (sL 1 (List.map AV.str A)) [])]):=kr
theorem call152:callable Tryz.prog 88=true:=kr
theorem call115:callable Tryz.prog 58=true:=kr
theorem rep_clo:∀ n:Nat,cloL (List.replicate n (AV.str []))=true
 | 0=>rfl
 | n+1=>by rw [List.replicate_succ];simp only [cloL,rep_clo n,Bool.and_true];rfl
theorem padA_clo (A:List (List UInt8)) (i:Nat):cloL (padA A i)=true:=by unfold padA;rw [clo_append,cloL_str,rep_clo];rfl
theorem padA_set {A:List (List UInt8)} {i:Nat} {x:List UInt8} (h:A[i]?=some x):(padA A i).set i (.str x)=padA A (i+1):=take_pad h (List.getElem?_eq_some_iff.1 h).1
theorem padA_get {A:List (List UInt8)} {i:Nat} (h:i<A.length):(padA A i)[i]?=some (.str []):=pad_get h (Nat.le_refl _)
theorem padA_all (A:List (List UInt8)):padA A A.length=A.map AV.str:=by simp [padA]
theorem padA_zero (A:List (List UInt8)):List.replicate A.length (AV.str [])=padA A 0:=by simp [padA]
def lastU (A:List (List UInt8)):List UInt8:=(A.drop (A.length - 1)).headD []
section
variable (W:World) (s:List UInt8)
theorem loop152 (A:List (List UInt8)) (hs:s.length<=2 ^ 30) (hA:A.length<=s.length+1):∀ p:Nat×List UInt8,(p.1<A.length/\splitD 46 p.2=A.drop p.1/\p.2.length<=s.length) →
 LoopC Tryz.prog W [] (nslots Tryz.prog 88) (loopOf Tryz.prog 88 0) (S152 A p.2 p.1) (.exit 0) (S152 A (lastU A) (A.length - 1:Nat)):=by
 refine loopC_inv (fun p:Nat×List UInt8=>S152 A p.2 p.1) (fun p=>p.1<A.length/\splitD 46 p.2=A.drop p.1/\p.2.length<=s.length) (fun p=>A.length - p.1) (by simp) ?_
 rintro ⟨i,u⟩ ⟨h1,h2,h3⟩
 simp only at h1 h2 h3
 have hdl:defLen (AV.str u)=u.length:=rfl
 by_cases hi:(i:Int)<(A.length:Int) - 1
 ·left
  by_cases hm:ixbB u (UInt8.ofNat 46)<0
  ·exfalso
   have e:=splitD_one 46 u (by rw [<-ixbB_eq Tryz.prog];exact hm)
   have:=congrArg List.length (h2.symm.trans e)
   simp only [List.length_drop,List.length_cons,List.length_nil] at this
   omega
  obtain ⟨m,hixb⟩:=Int.eq_ofNat_of_zero_le (show 0<=ixbB u (UInt8.ofNat 46) by omega)
  have hixb':Lib.indexByte u 46=(m:Int):=by rw [<-ixbB_eq Tryz.prog];exact hixb
  obtain ⟨hcut,hml⟩:=splitD_cut 46 u m hixb'
  have hx:A[i]?=some (u.take m):=by
   have:=congrArg List.head? (h2.symm.trans hcut)
   rw [List.head?_drop] at this;simpa using this
  have hrest:splitD 46 (u.drop (m+1))=A.drop (i+1):=by
   have:=congrArg List.tail (h2.symm.trans hcut)
   rw [List.tail_drop] at this;simpa using this.symm
  have hw0:IntKind.i64.wrap ((m:Int)+0)=(m:Int):=by rw [IntWalk.i64_in _ (by omega)];omega
  have hw1:IntKind.i64.wrap ((m:Int)+1)=((m+1:Nat):Int):=wrap_succ (by omega)
  have hws:IntKind.i64.wrap ((i:Int)+1)=((i+1:Nat):Int):=wrap_succ (by omega)
  refine ⟨(i+1,u.drop (m+1)),⟨by simp only;omega,hrest,by simp only [List.length_drop];omega⟩,by simp only;omega,?_⟩
  by_cases he:[46]=u
  ·subst he
   have hm0:m=0:=by simp only [List.length_cons,List.length_nil] at hml;omega
   subst hm0
   have hset:(padA A i).set (0+((i:Int)).toNat) (AV.str [])=padA A (i+1):=by
    rw [Int.toNat_natCast,Nat.zero_add];exact padA_set hx
   exact body_of_sbodyK mixedz (b152_0 W A [46] i) Fb4_z5 [] [] Fb4_z1
  ·have hset:(padA A i).set (0+((i:Int)).toNat) (AV.str (List.drop 0 (List.take ((m:Int)).toNat u)))=padA A (i+1):=by
    rw [Int.toNat_natCast,Nat.zero_add,Int.toNat_natCast,List.drop_zero];exact padA_set hx
   exact body_of_sbodyK mixedz (b152_2 W A u i) Fb4_z5 [] [] Fb4_z1
 ·right
  have hi2:i=A.length - 1:=by omega
  subst hi2
  have e1:=splitD_single 46 u (by rw [h2];simp only [List.length_drop];omega)
  have e2:lastU A=u:=by unfold lastU;rw [<-h2,e1];rfl
  rw [e2]
  exact body_of_sbodyM mixedz (b152_3 W A u _) Fb4_z5 [] [] Fb4_z1
theorem genSplit152 (hs:s.length<=2 ^ 30):Pure Tryz.prog W 88 [.str s,.str [46],iA 0,iA (-1)] (.sl 1 ((splitD 46 s).map AV.str) []):=by
 have hA:(splitD 46 s).length=Lib.countByte s 46+1:=splitD_len 46 s
 have hcl:Lib.countByte s 46<=s.length:=countByte_le s 46
 generalize hAA:splitD 46 s=A at hA
 have hcb:cntB s (UInt8.ofNat 46)=(Lib.countByte s 46:Int):=cntB_eq Tryz.prog s 46
 have hw1:IntKind.i64.wrap (cntB s (UInt8.ofNat 46)+1)=(A.length:Int):=by rw [hcb,IntWalk.i64_in _ (by omega)];omega
 have hw2:IntKind.i64.wrap ((s.length:Int)+1)=(s.length:Int)+1:=by rw [IntWalk.i64_in _ (by omega)]
 have hN:(if IntKind.i64.wrap ((s.length:Int)+1)<IntKind.i64.wrap (cntB s (UInt8.ofNat 46)+1) then IntKind.i64.wrap ((s.length:Int)+1) else IntKind.i64.wrap (cntB s (UInt8.ofNat 46)+1))=(A.length:Int):=by
  rw [hw1,hw2,if_neg (by omega)]
 have hwm:IntKind.i64.wrap ((A.length:Int) - 1)=(A.length:Int) - 1:=by rw [IntWalk.i64_in _ (by omega)]
 have h1:A.length - 1<A.length:=by omega
 have hws:IntKind.i64.wrap (((A.length - 1:Nat):Int)+1)=(A.length:Int):=by rw [IntWalk.i64_in _ (by omega)];omega
 have hlp:=loop152 W s A hs (by omega) (0,s) ⟨by simp only;omega,by simp only;rw [hAA];rfl,Nat.le_refl _⟩
 have hlast:A[A.length - 1]?=some (lastU A):=by
  unfold lastU
  have:A.length - 1<A.length:=h1
  rw [List.drop_eq_getElem_cons this,List.getElem?_eq_getElem this];rfl
 have hset:(padA A (A.length - 1)).set (0+(((A.length - 1:Nat):Int)).toNat) (AV.str (lastU A))=A.map AV.str:=by
  rw [Int.toNat_natCast,Nat.zero_add,padA_set hlast,<-padA_all];congr 1;omega
 have hdl:defLen (AV.str (lastU A))=(lastU A).length:=rfl
 have h:=mut_of_sfun mixedz call152 rfl (p152_0 W s A (lastU A) (A.length - 1)) Fb4_z6
 exact pure_frz1 h (by simp) (cloL_str _)
theorem Split115 (hs:s.length<=2 ^ 30):Pure Tryz.prog W 58 [.str s,.str [46]] (.sl 1 ((splitD 46 s).map AV.str) []):=by
 have hc:=mut_of_pure (by rfl) (genSplit152 W s hs)
 exact goB rfl rfl (mut_of_sfun mixedz call115 rfl (p115_0 W s (splitD 46 s)) Fb4_z5)
end
end Go.Ac

namespace Go.Ac
open Go Go.Proofs
set_option maxRecDepth 10000
set_option maxHeartbeats 1000000
theorem Fb5_z1 {kp f ph σ σ'} (h:MatchK kp f ph σ σ':=by exact ⟨by rfl,(by simp only [S76,E76,R76,S23,E23,tOK,List.map_cons,List.map_nil,and_true]<;>exact zt),(by simp only [S76,E76,R76,S23,E23,hOK,List.map_cons,List.map_nil,and_true]<;>exact zh),(by simp only [S76,E76,R76,S23,E23,liveT,List.map_cons,List.map_nil,and_true]<;>exact zv),(by simp only [S76,E76,R76,S23,E23,liveH,List.map_cons,List.map_nil,and_true]<;>exact zv)⟩):MatchK kp f ph σ σ':=h
theorem Fb5_z5 {cs} (h:Holds cs:=by simp only [Holds,and_true]<;>and_intros<;>first|exact zd):Holds cs:=h
theorem Fb5_z6 {cs} (h:Holds cs:=by simp only [Holds,and_true]<;>and_intros<;>first|exact zd|exact Fb5_z1):Holds cs:=h
def S76 (p:List (List UInt8)) (t:Int) (i:Nat):AS:=⟨[(5,iA t),(6,.gs 100000 0 i),(10,.sl 1 (p.map AV.str) []),(11,iA p.length),(12,iA i)],[(100000,.arr 9 1 ((p.take i).map AV.str) .own)]⟩
def E76 (p:List (List UInt8)):AS:=⟨[(6,.gs 100000 0 p.length)],[(100000,.arr 9 1 (p.map AV.str) .own)]⟩
def R76 (t:Int):AS:=⟨[(2,.val (.slice none 0 0)),(3,iA 20),(4,iA t)],[]⟩
def S23 (s:List UInt8) (p:List (List UInt8)) (a i j:Nat):AS:=⟨[(0,.str s),(5,.gs 100000 0 j),(6,iA a),(7,iA i)],[(100000,.arr 9 1 ((p.take j).map AV.str) .own)]⟩
def E23 (p:List (List UInt8)):AS:=⟨[(5,.gs 100000 0 p.length)],[(100000,.arr 9 1 (p.map AV.str) .own)]⟩
theorem b76_0 (W:World) (p:List (List UInt8)) (t:Int) (i:Nat) (x:List UInt8):sQ W {lp:=true,tl:=[59]} 29 0 [] [2,3,4,5,6,10,11,12] (S76 p t i) [bt,aE 1,oS (.str x),ee,cR (bA (segB x)) [],bt,bt,bt,bt,ee]=.ok ((.ret,{t:=[(2,.val (Value.slice none 0 0)),(3,iA 20),(4,iA t),(5,iA t),(6,.gs 100000 0 i),(10,sL 1 (List.map AV.str p)),(11,iA (p.length:Int)),(12,iA (i:Int))],h:=[(100000,.arr 9 1 (List.map AV.str (List.take i p)) .own)]}),[aE 9999999],d4 ((!segB x)=true) [MZ W 59 [.str x] [] (.ret (bA (segB x)) []),(List.map AV.str p)[(i:Int).toNat]?=some (AV.str x),decide ((i:Int)<(p.length:Int))=true]):=kr
theorem b76_1 (W:World) (p:List (List UInt8)) (t:Int) (i:Nat) (x:List UInt8):sQ W {lp:=true,tl:=[59]} 29 0 [] [2,3,4,5,6,10,11,12] (S76 p t i) [bt,aE 1,oS (.str x),ee,cR (bA (segB x)) [],bf,bf,bf,bf,bt,ee]=.ok ((.ret,{t:=[(2,.val (Value.slice none 0 0)),(3,iA 20),(4,iA t),(5,iA t),(6,.gs 100000 0 i),(10,sL 1 (List.map AV.str p)),(11,iA (p.length:Int)),(12,iA (i:Int))],h:=[(100000,.arr 9 1 (List.map AV.str (List.take i p)) .own)]}),[ee],(decide ((i:Int)=16)=true)::(d4 ((!segB x)=false) [MZ W 59 [.str x] [] (.ret (bA (segB x)) []),(List.map AV.str p)[(i:Int).toNat]?=some (AV.str x),decide ((i:Int)<(p.length:Int))=true])):=kr
theorem b76_2 (W:World) (p:List (List UInt8)) (t:Int) (i:Nat) (x:List UInt8):sQ W {lp:=true,tl:=[59]} 29 0 [] [2,3,4,5,6,10,11,12] (S76 p t i) [bt,aE 1,oS (.str x),ee,cR (bA (segB x)) [],bf,bf,bf,bf,bf,aE 1,.lg,.lg,ee]=.ok ((.normal,{t:=[(5,iA (IntKind.i64.wrap (t+IntKind.i64.wrap ((x.length:Int)+1)))),(6,.gs 100002 0 (i+[AV.str x].length)),(10,sL 1 (List.map AV.str p)),(11,iA (p.length:Int)),(12,iA (IntKind.i64.wrap ((i:Int)+1)))],h:=[(100000,.dead),(100001,.arr 9 1 [.str x] .own),(100002,.arr 9 1 (List.take i (List.map AV.str (List.take i p))++[AV.str x]) .own)]}),[ee],((i+[AV.str x].length) * 16<=140737488355328)::((St.own=St.own\/St.own=St.shr/\i=(List.map AV.str (List.take i p)).length)/\i<=(List.map AV.str (List.take i p)).length)::(decide ((i:Int)=16)=false)::(d4 ((!segB x)=false) [MZ W 59 [.str x] [] (.ret (bA (segB x)) []),(List.map AV.str p)[(i:Int).toNat]?=some (AV.str x),decide ((i:Int)<(p.length:Int))=true])):=kr
theorem b76_3 (W:World) (p:List (List UInt8)) (t:Int) (i:Nat):sQ W {lp:=true,tl:=[59]} 29 0 [] [2,3,4,5,6,10,11,12] (S76 p t i) [bf,ee]=.ok ((.exit 0,{t:=[(5,iA t),(6,.gs 100000 0 i),(10,sL 1 (List.map AV.str p)),(11,iA (p.length:Int)),(12,iA (i:Int))],h:=[(100000,.arr 9 1 (List.map AV.str (List.take i p)) .own)]}),[ee],[decide ((i:Int)<(p.length:Int))=false]):=kr
theorem p76_0 (W:World) (s:List UInt8) (p:List (List UInt8)) (t:Int):sF W {fin:=9,lp:=true,tl:=[58]} 29 [.str s] [] 100000 [ee,cR (sL 1 (List.map AV.str p)) [],ee,.loopM [] [(100000,1)] (S76 p 0 0) (.exit 0) (E76 p),ee,.fin [] [] (.tup [.gs 100000 0 p.length,iA 0,iA 0]) [(100000,.arr 9 1 (List.map AV.str p) .own)],ee] []=.ok (.ret (.tup [.gs 100000 0 p.length,iA 0,iA 0]) [(100000,.arr 9 1 (List.map AV.str p) .own)],[ee],[MatchK [] [] [] {t:=[(0,.tup [.gs 100000 0 p.length,iA 0,iA 0])],h:=[(100000,.arr 9 1 (List.map AV.str p) .own)]} {t:=[(0,.tup [.gs 100000 0 p.length,iA 0,iA 0])],h:=[(100000,.arr 9 1 (List.map AV.str p) .own)]},LZ W [] 29 0 (S76 p 0 0) (.exit 0) (E76 p),MatchK [] [] [(100000,1)] {t:=[(5,iA 0),(6,.val (Value.slice none 0 0)),(10,sL 1 (List.map AV.str p)),(11,iA (↑(List.map AV.str p).length:Int)),(12,iA 0)],h:=[]} (S76 p 0 0),MZ W 58 [.str s,.str [46]] [] (.ret (sL 1 (List.map AV.str p)) [])]):=kr
theorem q76_0 (W:World) (s:List UInt8) (p:List (List UInt8)) (t:Int):sF W {lp:=true,tl:=[58]} 29 [.str s] [] 100000 [ee,cR (sL 1 (List.map AV.str p)) [],ee,.loopM [] [(100000,1)] (S76 p 0 0) .ret (R76 t),ee] []=.ok (.ret (.tup [.val (Value.slice none 0 0),iA 20,iA t]) [],[ee],[LZ W [] 29 0 (S76 p 0 0) .ret (R76 t),MatchK [] [] [(100000,1)] {t:=[(5,iA 0),(6,.val (Value.slice none 0 0)),(10,sL 1 (List.map AV.str p)),(11,iA (↑(List.map AV.str p).length:Int)),(12,iA 0)],h:=[]} (S76 p 0 0),MZ W 58 [.str s,.str [46]] [] (.ret (sL 1 (List.map AV.str p)) [])]):=kr
theorem b23_0 (W:World) (s:List UInt8) (p:List (List UInt8)) (a i j:Nat) (t:Int) (y:UInt8):sQ W {lp:=true,tl:=[61]} 34 0 [] [0,5,6,7] (S23 s p a i j) [bt,bt,bt,bt,aE 1,Ans.byt (some y),bt,bt,bt,ee]=.ok ((.normal,{t:=[(0,.str s),(5,.gs 100000 0 j),(6,iA (a:Int)),(7,iA (IntKind.i64.wrap ((i:Int)+1)))],h:=[(100000,.arr 9 1 (List.map AV.str (List.take j p)) .own)]}),[ee],((!decide ((y.toNat:Int)=46))=true)::(d2 (decide ((i:Int)<(s.length:Int))=true) ((s[(i:Int).toNat]?=some y)::(d3 (decide ((i:Int)<(s.length:Int))=true) [decide ((i:Int)<=(s.length:Int))=true])))):=kr
theorem b23_1 (W:World) (s:List UInt8) (p:List (List UInt8)) (a i j:Nat) (t:Int) (y:UInt8):sQ W {lp:=true,tl:=[61]} 34 0 [] [0,2,3,4,5,6,7] (S23 s p a i j) [bt,bt,bt,bt,aE 1,Ans.byt (some y),bt,bt,bf,bt,bt,bt,bt,bt,bt,bt,ee]=.ok ((.ret,{t:=[(0,.str s),(2,.val (Value.slice none 0 0)),(3,iA 20),(4,iA (a:Int)),(5,.gs 100000 0 j),(6,iA (a:Int)),(7,iA (i:Int))],h:=[(100000,.arr 9 1 (List.map AV.str (List.take j p)) .own)]}),[aE 9999999],(decide ((j:Int)=16)=true)::(d6 (decide ((j:Int)=16)=true) (((!decide ((y.toNat:Int)=46))=false)::(d2 (decide ((i:Int)<(s.length:Int))=true) ((s[(i:Int).toNat]?=some y)::(d3 (decide ((i:Int)<(s.length:Int))=true) [decide ((i:Int)<=(s.length:Int))=true])))))):=kr
theorem b23_2 (W:World) (s:List UInt8) (p:List (List UInt8)) (a i j:Nat) (t:Int) (x:List UInt8) (y:UInt8):sQ W {lp:=true,tl:=[61]} 34 0 [] [0,2,3,4,5,6,7] (S23 s p a i j) [bt,bt,bt,bt,aE 1,Ans.byt (some y),bt,bt,bf,bf,bf,bf,bf,aE 1,.lg,bf,ee,cR (bA (segB x)) [],bf,bf,bt,ee]=.ok ((.ret,{t:=[(0,.str s),(2,.val (Value.slice none 0 0)),(3,iA 20),(4,iA (a:Int)),(5,.gs 100000 0 j),(6,iA (a:Int)),(7,iA (i:Int))],h:=[(100000,.arr 9 1 (List.map AV.str (List.take j p)) .own)]}),[ee],((!segB x)=true)::(d2 (decide ((j:Int)=16)=false) (MZ W 61 [.str (List.drop (a:Int).toNat (List.take (i:Int).toNat s))] [] (.ret (bA (segB x)) [])::(decide ((j:Int)=16)=false)::((a:Int)<=(i:Int)/\(i:Int)<=(s.length:Int))::(d4 (decide ((j:Int)=16)=false) (((!decide ((y.toNat:Int)=46))=false)::(d2 (decide ((i:Int)<(s.length:Int))=true) ((s[(i:Int).toNat]?=some y)::(d3 (decide ((i:Int)<(s.length:Int))=true) [decide ((i:Int)<=(s.length:Int))=true])))))))):=kr
theorem b23_3 (W:World) (s:List UInt8) (p:List (List UInt8)) (a i j:Nat) (t:Int) (x:List UInt8) (y:UInt8):sQ W {lp:=true,tl:=[61]} 34 0 [] [0,5,6,7] (S23 s p a i j) [bt,bt,bt,bt,aE 1,Ans.byt (some y),bt,bt,bf,bf,bf,bf,bf,aE 1,.lg,bf,ee,cR (bA (segB x)) [],bf,bf,bf,aE 1,.lg,aE 1,.lg,.lg,ee]=.ok ((.normal,{t:=[(0,.str s),(5,.gs 100002 0 (j+[AV.str (List.drop (a:Int).toNat (List.take (i:Int).toNat s))].length)),(6,iA (IntKind.i64.wrap ((i:Int)+1))),(7,iA (IntKind.i64.wrap ((i:Int)+1)))],h:=[(100000,.dead),(100001,.arr 9 1 [.str (List.drop (a:Int).toNat (List.take (i:Int).toNat s))] .own),(100002,.arr 9 1 (List.take j (List.map AV.str (List.take j p))++[AV.str (List.drop (a:Int).toNat (List.take (i:Int).toNat s))]) .own)]}),[ee],((j+[AV.str (List.drop (a:Int).toNat (List.take (i:Int).toNat s))].length) * 16<=140737488355328)::((St.own=St.own\/St.own=St.shr/\j=(List.map AV.str (List.take j p)).length)/\j<=(List.map AV.str (List.take j p)).length)::((a:Int)<=(i:Int)/\(i:Int)<=(s.length:Int))::((!segB x)=false)::(d2 (decide ((j:Int)=16)=false) (MZ W 61 [.str (List.drop (a:Int).toNat (List.take (i:Int).toNat s))] [] (.ret (bA (segB x)) [])::(decide ((j:Int)=16)=false)::((a:Int)<=(i:Int)/\(i:Int)<=(s.length:Int))::(d4 (decide ((j:Int)=16)=false) (((!decide ((y.toNat:Int)=46))=false)::(d2 (decide ((i:Int)<(s.length:Int))=true) ((s[(i:Int).toNat]?=some y)::(d3 (decide ((i:Int)<(s.length:Int))=true) [decide ((i:Int)<=(s.length:Int))=true])))))))):=kr
theorem b23_4 (W:World) (s:List UInt8) (p:List (List UInt8)) (a i j:Nat) (t:Int):sQ W {lp:=true,tl:=[61]} 34 0 [] [0,2,3,4,5,6,7] (S23 s p a i j) [bt,bf,bf,bf,bf,bf,aE 1,bt,bt,bt,bt,bt,bt,bt,ee]=.ok ((.ret,{t:=[(0,.str s),(2,.val (Value.slice none 0 0)),(3,iA 20),(4,iA (a:Int)),(5,.gs 100000 0 j),(6,iA (a:Int)),(7,iA (i:Int))],h:=[(100000,.arr 9 1 (List.map AV.str (List.take j p)) .own)]}),[aE 9999999],(decide ((j:Int)=16)=true)::(d6 (decide ((j:Int)=16)=true) ((decide ((i:Int)<(s.length:Int))=false)::(d4 (decide ((i:Int)<(s.length:Int))=false) [decide ((i:Int)<=(s.length:Int))=true])))):=kr
theorem b23_5 (W:World) (s:List UInt8) (p:List (List UInt8)) (a i j:Nat) (t:Int) (x:List UInt8):sQ W {lp:=true,tl:=[61]} 34 0 [] [0,2,3,4,5,6,7] (S23 s p a i j) [bt,bf,bf,bf,bf,bf,aE 1,bf,bf,bf,bf,aE 1,.lg,bf,ee,cR (bA (segB x)) [],bf,bf,bt,ee]=.ok ((.ret,{t:=[(0,.str s),(2,.val (Value.slice none 0 0)),(3,iA 20),(4,iA (a:Int)),(5,.gs 100000 0 j),(6,iA (a:Int)),(7,iA (i:Int))],h:=[(100000,.arr 9 1 (List.map AV.str (List.take j p)) .own)]}),[ee],((!segB x)=true)::(d2 (decide ((j:Int)=16)=false) (MZ W 61 [.str (List.drop (a:Int).toNat (List.take (i:Int).toNat s))] [] (.ret (bA (segB x)) [])::(decide ((j:Int)=16)=false)::((a:Int)<=(i:Int)/\(i:Int)<=(s.length:Int))::(d4 (decide ((j:Int)=16)=false) ((decide ((i:Int)<(s.length:Int))=false)::(d4 (decide ((i:Int)<(s.length:Int))=false) [decide ((i:Int)<=(s.length:Int))=true])))))):=kr
theorem b23_6 (W:World) (s:List UInt8) (p:List (List UInt8)) (a i j:Nat) (t:Int) (x:List UInt8):sQ W {lp:=true,tl:=[61]} 34 0 [] [0,5,6,7] (S23 s p a i j) [bt,bf,bf,bf,bf,bf,aE 1,bf,bf,bf,bf,aE 1,.lg,bf,ee,cR (bA (segB x)) [],bf,bf,bf,aE 1,.lg,aE 1,.lg,.lg,ee]=.ok ((.normal,{t:=[(0,.str s),(5,.gs 100002 0 (j+[AV.str (List.drop (a:Int).toNat (List.take (i:Int).toNat s))].length)),(6,iA (IntKind.i64.wrap ((i:Int)+1))),(7,iA (IntKind.i64.wrap ((i:Int)+1)))],h:=[(100000,.dead),(100001,.arr 9 1 [.str (List.drop (a:Int).toNat (List.take (i:Int).toNat s))] .own),(100002,.arr 9 1 (List.take j (List.map AV.str (List.take j p))++[AV.str (List.drop (a:Int).toNat (List.take (i:Int).toNat s))]) .own)]}),[ee],((j+[AV.str (List.drop (a:Int).toNat (List.take (i:Int).toNat s))].length) * 16<=140737488355328)::((St.own=St.own\/St.own=St.shr/\j=(List.map AV.str (List.take j p)).length)/\j<=(List.map AV.str (List.take j p)).length)::((a:Int)<=(i:Int)/\(i:Int)<=(s.length:Int))::((!segB x)=false)::(d2 (decide ((j:Int)=16)=false) (MZ W 61 [.str (List.drop (a:Int).toNat (List.take (i:Int).toNat s))] [] (.ret (bA (segB x)) [])::(decide ((j:Int)=16)=false)::((a:Int)<=(i:Int)/\(i:Int)<=(s.length:Int))::(d4 (decide ((j:Int)=16)=false) ((decide ((i:Int)<(s.length:Int))=false)::(d4 (decide ((i:Int)<(s.length:Int))=false) [decide ((i:Int)<=(s.length:Int))=true])))))):=kr
theorem b23_7 (W:World) (s:List UInt8) (p:List (List UInt8)) (a i j:Nat) (t:Int):sQ W {lp:=true,tl:=[61]} 34 0 [] [0,2,3,4,5,6,7] (S23 s p a i j) [bf,ee]=.ok ((.exit 0,{t:=[(0,.str s),(5,.gs 100000 0 j),(6,iA (a:Int)),(7,iA (i:Int))],h:=[(100000,.arr 9 1 (List.map AV.str (List.take j p)) .own)]}),[ee],[decide ((i:Int)<=(s.length:Int))=false]):=kr
theorem p23_0 (W:World) (s:List UInt8) (p:List (List UInt8)) (t:Int):sF W {fin:=9,lp:=true} 34 [.str s] [] 100000 [ee,.loopM [] [(100000,1)] (S23 s p 0 0 0) (.exit 0) (E23 p),ee,.fin [] [] (.tup [.gs 100000 0 p.length,iA 0,iA 0]) [(100000,.arr 9 1 (List.map AV.str p) .own)],ee] []=.ok (.ret (.tup [.gs 100000 0 p.length,iA 0,iA 0]) [(100000,.arr 9 1 (List.map AV.str p) .own)],[ee],[MatchK [] [] [] {t:=[(0,.tup [.gs 100000 0 p.length,iA 0,iA 0])],h:=[(100000,.arr 9 1 (List.map AV.str p) .own)]} {t:=[(0,.tup [.gs 100000 0 p.length,iA 0,iA 0])],h:=[(100000,.arr 9 1 (List.map AV.str p) .own)]},LZ W [] 34 0 (S23 s p 0 0 0) (.exit 0) (E23 p),MatchK [] [] [(100000,1)] {t:=[(0,.str s),(5,.val (Value.slice none 0 0)),(6,iA 0),(7,iA 0)],h:=[]} (S23 s p 0 0 0)]):=kr
theorem q23_0 (W:World) (s:List UInt8) (p:List (List UInt8)) (t:Int):sF W {lp:=true} 34 [.str s] [] 100000 [ee,.loopM [] [(100000,1)] (S23 s p 0 0 0) .ret (R76 t),ee] []=.ok (.ret (.tup [.val (Value.slice none 0 0),iA 20,iA t]) [],[ee],[LZ W [] 34 0 (S23 s p 0 0 0) .ret (R76 t),MatchK [] [] [(100000,1)] {t:=[(0,.str s),(5,.val (Value.slice none 0 0)),(6,iA 0),(7,iA 0)],h:=[]} (S23 s p 0 0 0)]):=kr
theorem call76:callable Tryz.prog 29=true:=kr
theorem call23:callable Tryz.prog 34=true:=kr
def parseAV (s:List UInt8):AV:=.tup [.sl 1 ((parseP s).map AV.str) [],iA (parseE s),iA (parseA s)]
theorem push_eq {p:List (List UInt8)} {i:Nat} {x:List UInt8} (hx:p[i]?=some x):List.take i (List.map AV.str (List.take i p))++[AV.str x]=List.map AV.str (List.take (i+1) p):=by
 rw [take_snoc hx,List.map_append,<-List.map_take,List.take_take,Nat.min_self];rfl
theorem indexByte_at (c:UInt8):∀ (l:List UInt8) (m:Nat),l[m]?=some c->(∀ k,k<m->l[k]? ≠ some c)->Lib.indexByte l c=(m:Int)
 | [],m,h,_=>by simp at h
 | x::l,0,h,_=>by
  have h:x=c:=by simpa using h
  simp [Lib.indexByte,h]
 | x::l,m+1,h,hn=>by
  have h0:¬ x=c:=fun e=>hn 0 (by omega) (by simp [e])
  have ih:=indexByte_at c l m (by simpa using h) fun k hk=>by have:=hn (k+1) (by omega);simpa using this
  simp only [Lib.indexByte,h0,beq_iff_eq,if_false,ih]
  split<;>omega
section
variable (W:World) (s:List UInt8) (p:List (List UInt8))
theorem step76 (hp:∀ x ∈ p,x.length<=2 ^ 30) (i:Nat) (t:Int) (hi:i<p.length) (h16:i<=16) (h0:0<=t) (ht:t<=i * (2 ^ 30+1)) (x:List UInt8) (hx:p[i]?=some x) (hb:¬ (segB x=false\/i=16)) :
 BodyC Tryz.prog W [] (nslots Tryz.prog 29) (loopOf Tryz.prog 29 0) (S76 p t i) .normal (S76 p (t+(x.length+1)) (i+1)):=by
 have hxl:=hp x (List.mem_of_getElem? hx)
 have hws:IntKind.i64.wrap ((i:Int)+1)=((i+1:Nat):Int):=wrap_succ (by omega)
 have hwt:IntKind.i64.wrap (t+IntKind.i64.wrap ((x.length:Int)+1))=t+((x.length:Int)+1):=by rw [IntWalk.i64_in ((x.length:Int)+1) (by omega),IntWalk.i64_in _ (by omega)]
 have hc:=mut_of_pure (by rfl) (segment116 W x)
 have hsx:(!segB x)=false:=by cases e:segB x with
  | true=>rfl
  | false=>exact absurd (.inl e) hb
 have h16':¬ i=16:=fun e=>hb (.inr e)
 have hget:(List.map AV.str p)[((i:Int)).toNat]?=some (AV.str x):=by rw [Int.toNat_natCast];exact strs_get hx
 exact body_of_sbodyK mixedz (b76_2 W p t i x) Fb5_z5 [(100000,100002)] [] Fb5_z1
theorem loop76 (hp:∀ x ∈ p,x.length<=2 ^ 30) (hn:scanV p 0 0=none):∀ q:Nat×Int,(q.1<=p.length/\q.1<=16/\scanV p 0 0=scanV (p.drop q.1) q.1 q.2/\0<=q.2/\q.2<=q.1 * (2 ^ 30+1)) →
 LoopC Tryz.prog W [] (nslots Tryz.prog 29) (loopOf Tryz.prog 29 0) (S76 p q.2 q.1) (.exit 0) (E76 p):=by
 refine loopC_inv (fun q:Nat×Int=>S76 p q.2 q.1) (fun q=>q.1<=p.length/\q.1<=16/\scanV p 0 0=scanV (p.drop q.1) q.1 q.2/\0<=q.2/\q.2<=q.1 * (2 ^ 30+1)) (fun q=>p.length - q.1) (by simp) ?_
 rintro ⟨i,t⟩ ⟨h1,h2,h3,h4,h5⟩
 simp only at h1 h2 h3 h4 h5
 by_cases hi:i<p.length
 ·left
  obtain ⟨x,hx⟩:=getOf hi
  have hxl:=hp x (List.mem_of_getElem? hx)
  by_cases hb:segB x=false\/i=16
  ·exfalso
   rw [hn,scan_stop hx hb] at h3;cases h3
  ·exact ⟨(i+1,t+(x.length+1)),⟨by simp only;omega,by simp only;omega,by simp only;rw [h3];exact scan_step hx hb,by simp only;omega,by simp only;omega⟩,by simp only;omega,step76 W p hp i t hi h2 h4 h5 x hx hb⟩
 ·right
  have hil:i=p.length:=by omega
  subst hil
  exact body_of_sbodyK mixedz (b76_3 W p t p.length) Fb5_z5 [] [] Fb5_z1
theorem loopR76 (hp:∀ x ∈ p,x.length<=2 ^ 30) {t0:Int} (hn:scanV p 0 0=some t0):∀ q:Nat×Int,(q.1<=p.length/\q.1<=16/\scanV p 0 0=scanV (p.drop q.1) q.1 q.2/\0<=q.2/\q.2<=q.1 * (2 ^ 30+1)) →
 LoopC Tryz.prog W [] (nslots Tryz.prog 29) (loopOf Tryz.prog 29 0) (S76 p q.2 q.1) .ret (R76 t0):=by
 refine loopC_inv (fun q:Nat×Int=>S76 p q.2 q.1) (fun q=>q.1<=p.length/\q.1<=16/\scanV p 0 0=scanV (p.drop q.1) q.1 q.2/\0<=q.2/\q.2<=q.1 * (2 ^ 30+1)) (fun q=>p.length - q.1) (by simp) ?_
 rintro ⟨i,t⟩ ⟨h1,h2,h3,h4,h5⟩
 simp only at h1 h2 h3 h4 h5
 by_cases hi:i<p.length
 ·obtain ⟨x,hx⟩:=getOf hi
  have hxl:=hp x (List.mem_of_getElem? hx)
  by_cases hb:segB x=false\/i=16
  ·right
   rw [hn,scan_stop hx hb] at h3
   obtain rfl:t0=t:=by simpa using h3
   have hget:(List.map AV.str p)[((i:Int)).toNat]?=some (AV.str x):=by rw [Int.toNat_natCast];exact strs_get hx
   have hc:=mut_of_pure (by rfl) (segment116 W x)
   cases e:segB x with
   | false =>
    have hsx:(!segB x)=true:=by rw [e];rfl
    exact body_of_sbodyK mixedz (b76_0 W p t0 i x) Fb5_z5 [] [] Fb5_z1
   | true =>
    have hsx:(!segB x)=false:=by rw [e];rfl
    have h16:i=16:=by rcases hb with hb|hb;(rw [e] at hb;cases hb);exact hb
    exact body_of_sbodyK mixedz (b76_1 W p t0 i x) Fb5_z5 [] [] Fb5_z1
  ·left
   exact ⟨(i+1,t+(x.length+1)),⟨by simp only;omega,by simp only;omega,by simp only;rw [h3];exact scan_step hx hb,by simp only;omega,by simp only;omega⟩,by simp only;omega,step76 W p hp i t hi h2 h4 h5 x hx hb⟩
 ·exfalso
  have hil:i=p.length:=by omega
  subst hil
  rw [hn,List.drop_length] at h3
  cases h3
theorem Parse76 (hs:s.length<=2 ^ 30):Pure Tryz.prog W 29 [.str s] (parseAV s):=by
 have hp:∀ x ∈ splitD 46 s,x.length<=2 ^ 30:=fun x hx=>by have:=splitD_part 46 s x hx;omega
 have hc:=mut_of_pure (by rfl) (Split115 W s hs)
 have hpl:(splitD 46 s).length<=2 ^ 30+1:=by have:=splitD_len 46 s;have:=countByte_le s 46;omega
 cases hq:scanV (splitD 46 s) 0 0 with
 | none =>
  have hlp:=loop76 W _ hp hq (0,0) ⟨by simp,by simp,by simp,by simp,by simp⟩
  have h:=mut_of_sfun mixedz call76 rfl (p76_0 W s (splitD 46 s) 0) Fb5_z6
  exact pure_frz [(100000,.arr 9 1 ((splitD 46 s).map AV.str) .own)] h (by intro q hq;simp only [List.mem_singleton] at hq;subst hq;exact ⟨by simp [hg],by simp [Frzable,cloL_str]⟩) (by
   simp [parseAV,parseP,parseE,parseA,hq,clA,clL,lk,iA];try exact List.take_of_length_le (by simp)) rfl
 | some t0 =>
  have hlp:=loopR76 W _ hp hq (0,0) ⟨by simp,by simp,by simp,by simp,by simp⟩
  refine pure_leR ?_ (pure_of_mut (by rfl) (mut_of_sfun mixedz call76 rfl (q76_0 W s (splitD 46 s) t0) Fb5_z6))
  unfold parseAV parseP parseE parseA
  rw [hq]
  exact .tup (.cons (.nil 1) (.cons (.refl _) (.cons (.refl _) .nil)))
theorem scan_head {a i j:Nat} (ha:a<=i) (hi:i<=s.length) (hsp:splitD 46 (s.drop a)=p.drop j) (hno:∀ k,a<=k->k<i->s[k]? ≠ some 46) (hend:i=s.length\/s[i]?=some 46) :
 p[j]?=some (List.drop a (List.take i s))/\(List.drop a (List.take i s)).length=i - a/\(i=s.length->j+1=p.length)/\(s[i]?=some 46->splitD 46 (s.drop (i+1))=p.drop (j+1)):=by
 have hlen:(List.drop a (List.take i s)).length=i - a:=by simp only [List.length_drop,List.length_take];omega
 have hdt:List.drop a (List.take i s)=(s.drop a).take (i - a):=by rw [List.drop_take]
 rcases hend with he|he
 ·have hneg:Lib.indexByte (s.drop a) 46<0:=(indexByte_neg 46 _).2 fun hm=>by
   obtain ⟨k,hk⟩:=List.getElem?_of_mem hm
   rw [List.getElem?_drop] at hk
   have:=(List.getElem?_eq_some_iff.1 hk).1
   exact hno (a+k) (by omega) (by omega) hk
  have e1:=splitD_one 46 _ hneg
  have e2:=hsp.symm.trans e1
  refine ⟨?_,hlen,fun _=>?_,fun h=>?_⟩
  ·have:=congrArg List.head? e2
   rw [List.head?_drop] at this
   rw [this,hdt,List.take_of_length_le (by simp only [List.length_drop];omega)];rfl
  ·have:=congrArg List.length e2
   simp only [List.length_drop,List.length_cons,List.length_nil] at this;omega
  ·have:=(List.getElem?_eq_some_iff.1 h).1;omega
 ·have hil:=(List.getElem?_eq_some_iff.1 he).1
  have hat:Lib.indexByte (s.drop a) 46=((i - a:Nat):Int):=indexByte_at 46 _ _ (by rw [List.getElem?_drop];rw [show a+(i - a)=i by omega];exact he) fun k hk=>by
   rw [List.getElem?_drop];exact hno (a+k) (by omega) (by omega)
  obtain ⟨e1,_⟩:=splitD_cut 46 _ _ hat
  have e2:=hsp.symm.trans e1
  refine ⟨?_,hlen,fun h=>by omega,fun _=>?_⟩
  ·have:=congrArg List.head? e2
   rw [List.head?_drop] at this
   rw [this,hdt];rfl
  ·have:=congrArg List.tail e2
   rw [List.tail_drop,List.tail_cons,List.drop_drop] at this
   rw [this];congr 2;omega
def ScanI (s:List UInt8) (p:List (List UInt8)) (q:Nat×Nat×Nat):Prop :=
 (q.1<=s.length/\q.2.1<=q.1/\splitD 46 (s.drop q.2.1)=p.drop q.2.2/\(∀ k,q.2.1<=k->k<q.1->s[k]? ≠ some 46)/\scanV p 0 0=scanV (p.drop q.2.2) q.2.2 q.2.1)\/(q.1=s.length+1/\q.2.2=p.length/\scanV p 0 0=none)
theorem step23 (hs:s.length<=2 ^ 30) (hpl:p.length<=2 ^ 30+1) (i a j:Nat) (h:ScanI s p (i,a,j)) (hi:i<=s.length) :
 (∃ q,ScanI s p q/\s.length+1 - q.1<s.length+1 - i/\BodyC Tryz.prog W [] (nslots Tryz.prog 34) (loopOf Tryz.prog 34 0) (S23 s p a i j) .normal (S23 s p q.2.1 q.1 q.2.2)) ∨
 (∃ t:Int,scanV p 0 0=some t/\BodyC Tryz.prog W [] (nslots Tryz.prog 34) (loopOf Tryz.prog 34 0) (S23 s p a i j) .ret (R76 t)):=by
 rcases h with ⟨_,h2,h3,h4,h5⟩|⟨h1,_,_⟩
 case inr=>simp only at h1;omega
 simp only at h2 h3 h4 h5
 have hws:IntKind.i64.wrap ((i:Int)+1)=((i+1:Nat):Int):=wrap_succ (by omega)
 by_cases hl:i<s.length
 ·obtain ⟨y,hy⟩:=getOf hl
  have hget:s[((i:Int)).toNat]?=some y:=by rw [Int.toNat_natCast];exact hy
  by_cases hd:(y.toNat:Int)=46
  case neg =>
   left
   have hne:s[i]? ≠ some 46:=by rw [hy];intro e;simp only [Option.some.injEq] at e;exact hd ((u8_eq y 46 46 rfl).2 e)
   have hsy:(!decide ((y.toNat:Int)=46))=true:=by rw [decide_eq_false hd];rfl
   exact ⟨(i+1,a,j),.inl ⟨by simp only;omega,by simp only;omega,h3,fun k k1 k2=>by
    simp only at k1 k2
    by_cases e:k=i
    ·subst e;exact hne
    ·exact h4 k k1 (by omega),h5⟩,by simp only;omega,body_of_sbodyK mixedz (b23_0 W s p a i j 0 y) Fb5_z5 [] [] Fb5_z1⟩
  have hdot:s[i]?=some 46:=by rw [hy,(u8_eq y 46 46 rfl).1 hd]
  have hsy:(!decide ((y.toNat:Int)=46))=false:=by rw [decide_eq_true hd];rfl
  obtain ⟨g1,g2,_,g4⟩:=scan_head s p h2 hi h3 h4 (.inr hdot)
  have hjl:j<p.length:=(List.getElem?_eq_some_iff.1 g1).1
  generalize hx:List.drop a (List.take i s)=x at g1 g2
  have hc:MutC Tryz.prog W 61 [AV.str (List.drop ((a:Int)).toNat (List.take ((i:Int)).toNat s))] [] (OutC.ret (bA (segB x)) []):=by
   rw [Int.toNat_natCast,Int.toNat_natCast,hx];exact mut_of_pure (by rfl) (segment68 W x (by omega))
  have hxx:AV.str (List.drop ((a:Int)).toNat (List.take ((i:Int)).toNat s))=AV.str x:=by rw [Int.toNat_natCast,Int.toNat_natCast,hx]
  by_cases h16:j=16
  ·exact .inr ⟨a,by rw [h5,scan_stop g1 (.inr h16)],body_of_sbodyK mixedz (b23_1 W s p a i j 0 y) Fb5_z5 [] [] Fb5_z1⟩
  cases e:segB x with
  | false =>
   have hsx:(!segB x)=true:=by rw [e];rfl
   exact .inr ⟨a,by rw [h5,scan_stop g1 (.inl e)],body_of_sbodyK mixedz (b23_2 W s p a i j 0 x y) Fb5_z5 [] [] Fb5_z1⟩
  | true =>
   have hsx:(!segB x)=false:=by rw [e];rfl
   left
   refine ⟨(i+1,i+1,j+1),.inl ⟨by simp only;omega,Nat.le_refl _,g4 hdot,fun k k1 k2=>by simp only at k1 k2;omega,?_⟩,by simp only;omega,body_of_sbodyK mixedz (b23_3 W s p a i j 0 x y) Fb5_z5 [(100000,100002)] [] Fb5_z1⟩
   rw [h5,scan_step g1 (by rintro (h|h);(rw [e] at h;cases h);exact h16 h)]
   simp only;congr 1;omega
 ·have hil:i=s.length:=by omega
  obtain ⟨g1,g2,g3,_⟩:=scan_head s p h2 hi h3 h4 (.inl hil)
  have hjl:j<p.length:=(List.getElem?_eq_some_iff.1 g1).1
  generalize hx:List.drop a (List.take i s)=x at g1 g2
  have hc:MutC Tryz.prog W 61 [AV.str (List.drop ((a:Int)).toNat (List.take ((i:Int)).toNat s))] [] (OutC.ret (bA (segB x)) []):=by
   rw [Int.toNat_natCast,Int.toNat_natCast,hx];exact mut_of_pure (by rfl) (segment68 W x (by omega))
  have hxx:AV.str (List.drop ((a:Int)).toNat (List.take ((i:Int)).toNat s))=AV.str x:=by rw [Int.toNat_natCast,Int.toNat_natCast,hx]
  by_cases h16:j=16
  ·exact .inr ⟨a,by rw [h5,scan_stop g1 (.inr h16)],body_of_sbodyK mixedz (b23_4 W s p a i j 0) Fb5_z5 [] [] Fb5_z1⟩
  cases e:segB x with
  | false =>
   have hsx:(!segB x)=true:=by rw [e];rfl
   exact .inr ⟨a,by rw [h5,scan_stop g1 (.inl e)],body_of_sbodyK mixedz (b23_5 W s p a i j 0 x) Fb5_z5 [] [] Fb5_z1⟩
  | true =>
   have hsx:(!segB x)=false:=by rw [e];rfl
   left
   have hj1:=g3 hil
   refine ⟨(i+1,i+1,j+1),.inr ⟨by simp only;omega,hj1,?_⟩,by simp only;omega,body_of_sbodyK mixedz (b23_6 W s p a i j 0 x) Fb5_z5 [(100000,100002)] [] Fb5_z1⟩
   rw [h5,scan_step g1 (by rintro (h|h);(rw [e] at h;cases h);exact h16 h),hj1,List.drop_length];rfl
theorem loop23 (hs:s.length<=2 ^ 30) (hpl:p.length<=2 ^ 30+1) (hn:scanV p 0 0=none):∀ q,ScanI s p q->LoopC Tryz.prog W [] (nslots Tryz.prog 34) (loopOf Tryz.prog 34 0) (S23 s p q.2.1 q.1 q.2.2) (.exit 0) (E23 p):=by
 refine loopC_inv (fun q:Nat×Nat×Nat=>S23 s p q.2.1 q.1 q.2.2) (ScanI s p) (fun q=>s.length+1 - q.1) (by simp) ?_
 rintro ⟨i,a,j⟩ h
 by_cases hi:i<=s.length
 ·rcases step23 W s p hs hpl i a j h hi with ⟨q,h1,h2,h3⟩|⟨t,h1,_⟩
  ·exact .inl ⟨q,h1,h2,h3⟩
  ·rw [hn] at h1;cases h1
 ·right
  rcases h with ⟨h1,_⟩|⟨h1,h2,_⟩
  ·exact absurd h1 hi
  simp only at h1 h2
  subst h2
  exact body_of_sbodyK mixedz (b23_7 W s p a i p.length 0) Fb5_z5 [] [] Fb5_z1
theorem loopR23 (hs:s.length<=2 ^ 30) (hpl:p.length<=2 ^ 30+1) {t0:Int} (hn:scanV p 0 0=some t0):∀ q,ScanI s p q->LoopC Tryz.prog W [] (nslots Tryz.prog 34) (loopOf Tryz.prog 34 0) (S23 s p q.2.1 q.1 q.2.2) .ret (R76 t0):=by
 refine loopC_inv (fun q:Nat×Nat×Nat=>S23 s p q.2.1 q.1 q.2.2) (ScanI s p) (fun q=>s.length+1 - q.1) (by simp) ?_
 rintro ⟨i,a,j⟩ h
 by_cases hi:i<=s.length
 ·rcases step23 W s p hs hpl i a j h hi with ⟨q,h1,h2,h3⟩|⟨t,h1,h2⟩
  ·exact .inl ⟨q,h1,h2,h3⟩
  ·rw [hn] at h1
   obtain rfl:t0=t:=by simpa using h1
   exact .inr h2
 ·exfalso
  rcases h with ⟨h1,_⟩|⟨_,_,h2⟩
  ·exact hi h1
  ·rw [hn] at h2;cases h2
theorem Parse23 (hs:s.length<=2 ^ 30):Pure Tryz.prog W 34 [.str s] (parseAV s):=by
 have hpl:(splitD 46 s).length<=2 ^ 30+1:=by have:=splitD_len 46 s;have:=countByte_le s 46;omega
 have hI:ScanI s (splitD 46 s) (0,0,0):=.inl ⟨by simp,by simp,by simp,by intro k _ h;simp only at h;omega,by simp⟩
 cases hq:scanV (splitD 46 s) 0 0 with
 | none =>
  have hlp:=loop23 W s _ hs hpl hq (0,0,0) hI
  have h:=mut_of_sfun mixedz call23 rfl (p23_0 W s (splitD 46 s) 0) Fb5_z6
  exact pure_frz [(100000,.arr 9 1 ((splitD 46 s).map AV.str) .own)] h (by intro q hq;simp only [List.mem_singleton] at hq;subst hq;exact ⟨by simp [hg],by simp [Frzable,cloL_str]⟩) (by
   simp [parseAV,parseP,parseE,parseA,hq,clA,clL,lk,iA];try exact List.take_of_length_le (by simp)) rfl
 | some t0 =>
  have hlp:=loopR23 W s _ hs hpl hq (0,0,0) hI
  refine pure_leR ?_ (pure_of_mut (by rfl) (mut_of_sfun mixedz call23 rfl (q23_0 W s (splitD 46 s) t0) Fb5_z6))
  unfold parseAV parseP parseE parseA
  rw [hq]
  exact .tup (.cons (.nil 1) (.cons (.refl _) (.cons (.refl _) .nil)))
end
end Go.Ac

