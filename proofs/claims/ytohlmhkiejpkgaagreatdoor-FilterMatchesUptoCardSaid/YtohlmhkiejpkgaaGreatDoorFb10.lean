/- What is proved: contracts of functions of this translation, walked; their plain meaning. No condition beyond those that each theorem names. -/
import Derived.Test.YtohlmhkiejpkgaaGreatDoorFb9
set_option linter.all false
namespace Go.Ac
open Go Go.Proofs
set_option maxRecDepth 10000
set_option maxHeartbeats 1000000
theorem Fb10_z1 {cs} (h:Holds cs:=by simp only [Holds,and_true]<;>and_intros<;>first|exact zd):Holds cs:=h
def kindsA (s:List UInt8):List AV:=if s=[110,117,108,108] then [iA 0] else if s=[98,111,111,108] then [iA 1,iA 2] else if s=[105,110,116] then [iA 3] else if s=[115,116,114,105,110,103] then [iA 4] else if s=[97,114,114,97,121] then [iA 5] else if s=[111,98,106,101,99,116] then [iA 6] else []
def fitsN (name:List UInt8):FuncId:=if name=sGt then 175 else if name=sGte then 176 else if name=sLt then 177 else 178
def asksA (T:List AV) (N:List AV) (name:List UInt8) (x:JV):AV :=
 if name=sEq then .fn (.func 170) [] [.ip (encV x) 0]
 else if name=sNe then .fn (.func 173) [] [.ip (encV x) 0]
 else if name=sGt\/name=sGte\/name=sLt\/name=sLte then .fn (.func 205) [] [.ip (encV x) 0,.ip (.val (.func (.func (fitsN name)) #[] #[])) 0]
 else if name=sIn then .fn (.func 210) [] [.ip (encV x) 0,.ip (bA true) 0]
 else if name=sNin then .fn (.func 210) [] [.ip (encV x) 0,.ip (bA false) 0]
 else if name=sAll then .fn (.func 212) [] [.ip (encV x) 0]
 else if name=sExists then .fn (.func 214) [] [.ip (encV x) 0]
 else if name=sType then .fn (.func 216) [] [.ip (.sl 1 (kindsA x.text) []) 0]
 else if name=sSize then .fn (.func 218) [] [.ip (encV x) 0]
 else if name=sMod then .fn (.func 220) [] [.ip (encV x) 0]
 else if name=sNot then .fn (.func 222) [] [.ip (.sl 7 T []) 0]
 else .fn (.func 227) [] [.ip (if (isTestB x && !joinsB (firstS x))=true then .fn (.func 225) [] [.ip (.sl 7 T []) 0] else .fn (.func 226) [] [.ip (.agg [.sl 1 N []]) 0]) 0]
theorem mem_cnt {l:List JV} {v:JV} (h:v ∈ l):cntV v<=cntVs l:=by
 obtain ⟨i,hi⟩:=List.getElem?_of_mem h
 exact cntVs_get hi
theorem mem_tested {l:List JV} {v:JV} (h:v ∈ testedL l):cntV v<=cntVs l:=by
 rw [testedL_eq] at h
 obtain ⟨u,hu,hv⟩:=List.mem_flatMap.1 h
 have h1:=mem_cnt hu
 unfold testV at hv
 split at hv
 ·rcases List.mem_cons.1 hv with rfl|hv
  ·exact h1
  ·obtain ⟨i,hi⟩:=List.getElem?_of_mem hv
   have:=cntV_item hi;omega
 ·rcases List.mem_singleton.1 hv with rfl;exact h1
theorem tested_ln (l:List JV):(testedL l).length<=cntVs l:=tested_len l
theorem frz1 {k:Nat} {el:AV} (h:el.clo=true):∀ p ∈ [(k,GE.box el .own)],hg [(k,GE.box el .own)] p.1=some p.2/\Frzable p.2:=by
 intro p hp;simp only [List.mem_singleton] at hp;subst hp;exact ⟨by simp [hg],h⟩
theorem classV_mk (h:JH) (l:List JV):classV (.mk h l)=if h.kind=1 then 2 else h.kind:=rfl
theorem iA_inj {a b:Int}:a=b->iA a=iA b:=fun e=>by rw [e]
theorem bA_inj {a b:Bool}:a=b->bA a=bA b:=fun e=>by rw [e]
section
variable (W:World)
theorem pure203 {v:JV} (x:JV) (hv:cntV v<=2 ^ 30):Pure Tryz.prog W 203 [encV v,.ip (encV x) 0] (bA (eqV v x)):=by
 have hc:=mut_of_pure (by simp only [cloL,encV_clo,Bool.and_self]) (equal100 W _ v x (Nat.lt_succ_self _) hv)
 obtain ⟨h,m⟩:=v
 obtain ⟨h2,l2⟩:=x
 exact pure_of_mut rfl (mut_of_sfun mixedz call203 rfl (p203_0 W h2 l2 h m _) Fb10_z1)
theorem any_lent {p:JV->Bool} {l:List JV} {g:FuncId} {c:AV} (hc:c.clo=true) (h:Pure Tryz.prog W 201 [.sl 5 (encVs l) [],.fn (.func g) [] [.ip c 0]] (bA (l.any p))) :
 MutC Tryz.prog W 201 [.sl 5 (encVs l) [],.fn (.func g) [] [.gp 100000 0]] [(100000,.box c .own)] (.ret (bA (l.any p)) [(100000,.box c .own)]) :=
 mut_of_pureFlat (frz1 hc) rfl rfl rfl h
theorem eq171 (x:JV) {l:List JV} (hl:cntVs l<=2 ^ 30):Pure Tryz.prog W 171 [.sl 5 (encVs l) [],encV x] (bA (eqG x l)):=by
 have hc1:=mut_of_pure (by rfl) (tested202 W l hl)
 have hln:=tested_ln l
 have hc2:=any_lent W (encV_clo x) (any201 W (l:=testedL l) (.m203 (encV x) fun v hv=>pure203 W x (by have:=mem_tested hv;omega)) (by omega))
 obtain ⟨h2,l2⟩:=x
 by_cases k0:h2.kind=0
 ·by_cases e0:l.length=0
  ·have e:l=[]:=List.length_eq_zero_iff.1 e0
   refine goB (bA_inj ?_) rfl (mut_of_sfun mixedz call171 rfl (p171_0 W l h2 l2) Fb10_z1)
   subst e;simp [eqG,JV.kind,JV.hd,k0]
  ·have e:l ≠ []:=fun e=>e0 (by rw [e];rfl)
   refine goB (bA_inj ?_) rfl (mut_of_sfun mixedz call171 rfl (p171_1 W l (testedL l) h2 l2 _) Fb10_z1)
   cases l with
   | nil=>exact absurd rfl e
   | cons a l=>simp [eqG]
 ·refine goB (bA_inj ?_) rfl (mut_of_sfun mixedz call171 rfl (p171_2 W l (testedL l) h2 l2 _) Fb10_z1)
  simp [eqG,JV.kind,JV.hd,k0]
theorem ask170 (x:JV) {l:List JV} (hl:cntVs l<=2 ^ 30):Pure Tryz.prog W 170 [.sl 5 (encVs l) [],.ip (encV x) 0] (bA (eqG x l)):=by
 have hc:=mut_of_pure (by simp only [cloL,encV_clo,Bool.and_self];rfl) (eq171 W x hl)
 obtain ⟨h2,l2⟩:=x
 exact pure_of_mut rfl (mut_of_sfun mixedz call170 rfl (p170_0 W l h2 l2 _) Fb10_z1)
theorem ask173 (x:JV) {l:List JV} (hl:cntVs l<=2 ^ 30):Pure Tryz.prog W 173 [.sl 5 (encVs l) [],.ip (encV x) 0] (bA (!eqG x l)):=by
 have hc:=mut_of_pure (by simp only [cloL,encV_clo,Bool.and_self];rfl) (eq171 W x hl)
 obtain ⟨h2,l2⟩:=x
 exact pure_of_mut rfl (mut_of_sfun mixedz call173 rfl (p173_0 W l h2 l2 _) Fb10_z1)
theorem pure211 (y:JV) {l:List JV} (hl:cntVs l<=2 ^ 30):Pure Tryz.prog W 211 [encV y,.ip (.sl 5 (encVs l) []) 0] (bA (eqG y l)):=by
 have hc:=mut_of_pure (by simp only [cloL,encV_clo,Bool.and_self];rfl) (eq171 W y hl)
 obtain ⟨h,m⟩:=y
 exact pure_of_mut rfl (mut_of_sfun mixedz call211 rfl (p211_0 W l h m _) Fb10_z1)
theorem pure213 (y:JV) {l:List JV} (hl:cntVs l<=2 ^ 30):Pure Tryz.prog W 213 [encV y,.ip (.sl 5 (encVs l) []) 0] (bA (!eqG y l)):=by
 have hc:=mut_of_pure (by simp only [cloL,encV_clo,Bool.and_self];rfl) (eq171 W y hl)
 obtain ⟨h,m⟩:=y
 exact pure_of_mut rfl (mut_of_sfun mixedz call213 rfl (p213_0 W l h m _) Fb10_z1)
theorem ask210 (x:JV) (w:Bool) {l:List JV} (hl:cntVs l<=2 ^ 30) (hx:cntV x<=2 ^ 30):Pure Tryz.prog W 210 [.sl 5 (encVs l) [],.ip (encV x) 0,.ip (bA w) 0] (bA ((x.items.any fun y=>eqG y l) == w)):=by
 have hcl:=cntV_len x
 have hc2:=any_lent W (c:=.sl 5 (encVs l) []) rfl (any201 W (l:=x.items) (.m211 (.sl 5 (encVs l) []) fun y _=>pure211 W y hl) (by omega))
 obtain ⟨h2,l2⟩:=x
 exact pure_of_mut rfl (mut_of_sfun mixedz call210 rfl (p210_0 W l h2 l2 _ w) Fb10_z1)
theorem ask212 (x:JV) {l:List JV} (hl:cntVs l<=2 ^ 30) (hx:cntV x<=2 ^ 30):Pure Tryz.prog W 212 [.sl 5 (encVs l) [],.ip (encV x) 0] (bA (decide (0<x.items.length) && x.items.all (fun y=>eqG y l))):=by
 have hcl:=cntV_len x
 have hc2:=any_lent W (c:=.sl 5 (encVs l) []) rfl (any201 W (l:=x.items) (.m213 (.sl 5 (encVs l) []) fun y _=>pure213 W y hl) (by omega))
 obtain ⟨h2,l2⟩:=x
 by_cases e:0<l2.length
 ·have hb1:decide (0<((encVs l2).length:Int))=true:=decide_eq_true (by rw [encVs_len];omega)
  refine goB (bA_inj ?_) rfl (mut_of_sfun mixedz call212 rfl (p212_0 W l h2 l2 _) Fb10_z1)
  rw [show (JV.mk h2 l2).items=l2 from rfl,decide_eq_true e,Bool.true_and,List.all_eq_not_any_not]
 ·have hb1:decide (0<((encVs l2).length:Int))=false:=decide_eq_false (by rw [encVs_len];omega)
  refine goB (bA_inj ?_) rfl (mut_of_sfun mixedz call212 rfl (p212_1 W l h2 l2) Fb10_z1)
  simp [JV.items,e]
theorem ask214 (x:JV) {l:List JV}:Pure Tryz.prog W 214 [.sl 5 (encVs l) [],.ip (encV x) 0] (bA (decide ((0<l.length) ↔ x.kind=2))):=by
 obtain ⟨h2,l2⟩:=x
 refine goB (bA_inj ?_) rfl (mut_of_sfun mixedz call214 rfl (p214_0 W l h2 l2) Fb10_z1)
 rw [encVs_len]
 by_cases e1:0<l.length<;>by_cases e2:h2.kind=2<;>simp [JV.kind,JV.hd,e1,e2]
theorem pure219 (x v:JV):Pure Tryz.prog W 219 [encV v,.ip (encV x) 0] (bA (decide (v.kind=5) && decide ((v.items.length:Int)=x.int))):=by
 obtain ⟨h2,l2⟩:=x
 obtain ⟨h,m⟩:=v
 by_cases e:h.kind=5
 ·refine goB (bA_inj ?_) rfl (mut_of_sfun mixedz call219 rfl (p219_0 W h2 l2 h m) Fb10_z1)
  simp [JV.kind,JV.hd,JV.items,JV.int,e,encVs_len];rfl
 ·refine goB (bA_inj ?_) rfl (mut_of_sfun mixedz call219 rfl (p219_1 W h2 l2 h m) Fb10_z1)
  simp [JV.kind,JV.hd,e]
theorem ask218 (x:JV) {l:List JV} (hl:cntVs l<=2 ^ 30):Pure Tryz.prog W 218 [.sl 5 (encVs l) [],.ip (encV x) 0] (bA (l.any (fun v=>decide (v.kind=5) && decide ((v.items.length:Int)=x.int)))):=by
 have hln:=cntVs_len l
 have hc:=mut_of_pure (by simp only [cloL];rfl) (any201 W (l:=l) (.m219 (encV x) fun v _=>pure219 W x v) (by omega))
 exact pure_of_mut rfl (mut_of_sfun mixedz call218 rfl (p218_0 W (encV x) l _) Fb10_z1)
theorem pure221 (x v:JV) (a b:JV) (hi:x.items=[a,b]) (ha:a.int ≠ 0):Pure Tryz.prog W 221 [encV v,.ip (encV x) 0] (bA (modB x v)):=by
 obtain ⟨h2,l2⟩:=x
 obtain ⟨h,m⟩:=v
 obtain ⟨h3,l3⟩:=a
 obtain ⟨h4,l4⟩:=b
 simp only [JV.items] at hi
 subst hi
 have ha':h3.int ≠ 0:=ha
 have hget:(encVs [JV.mk h3 l3,JV.mk h4 l4])[0]?=some (encV (.mk h3 l3)):=rfl
 have hget2:(encVs [JV.mk h3 l3,JV.mk h4 l4])[1]?=some (encV (.mk h4 l4)):=rfl
 by_cases e:h.kind=3
 ·refine goB (bA_inj ?_) rfl (mut_of_sfun mixedz call221 rfl (p221_0 W h2 _ h m h3 l3 h4 l4) Fb10_z1)
  simp [modB,JV.kind,JV.hd,JV.items,JV.int,e];rfl
 ·refine goB (bA_inj ?_) rfl (mut_of_sfun mixedz call221 rfl (p221_1 W h2 _ h m) Fb10_z1)
  simp [modB,JV.kind,JV.hd,e]
theorem ask220 (x:JV) (a b:JV) (hi:x.items=[a,b]) (ha:a.int ≠ 0) {l:List JV} (hl:cntVs l<=2 ^ 30):Pure Tryz.prog W 220 [.sl 5 (encVs l) [],.ip (encV x) 0] (bA ((testedL l).any (modB x))):=by
 have hln:=tested_ln l
 have hc1:=mut_of_pure (by rfl) (tested202 W l hl)
 have hc2:=mut_of_pure (by simp only [cloL];rfl) (any201 W (l:=testedL l) (.m221 (encV x) fun v _=>pure221 W x v a b hi ha) (by omega))
 exact pure_of_mut rfl (mut_of_sfun mixedz call220 rfl (p220_0 W (encV x) l (testedL l) _) Fb10_z1)
theorem pure206_175 (x v:JV) (hv:cntV v<=2 ^ 30):Pure Tryz.prog W 206 [encV v,.ip (encV x) 0,.ip (.val (.func (.func 175) #[] #[])) 0] (bA (oneG sGt x v)):=by
 have hc3:=mut_of_pure (by simp only [cloL,encV_clo,Bool.and_self]) (compare81 W _ v x (Nat.lt_succ_self _) hv)
 obtain ⟨h2,l2⟩:=x
 obtain ⟨h,m⟩:=v
 have hc1:=mut_of_pure (by simp only [cloL,encV_clo,Bool.and_self]) (class207 W h m)
 have hc2:=mut_of_pure (by simp only [cloL,encV_clo,Bool.and_self]) (class207 W h2 l2)
 have ho:oneG sGt (.mk h2 l2) (.mk h m)=(decide (classV (.mk h m)=classV (.mk h2 l2)) && ordB sGt (cmpV (.mk h m) (.mk h2 l2))):=rfl
 rw [ho]
 by_cases e:classV (.mk h m)=classV (.mk h2 l2)
 ·refine goB (bA_inj ?_) rfl (mut_of_sfun mixedz call206 rfl (p206_175_0 W h2 l2 h m _ _ _) Fb10_z1)
  rw [decide_eq_true e,Bool.true_and];rfl
 ·refine goB (bA_inj ?_) rfl (mut_of_sfun mixedz call206 rfl (p206_175_1 W h2 l2 h m (classV (.mk h m)) (classV (.mk h2 l2))) Fb10_z1)
  rw [decide_eq_false e,Bool.false_and]
theorem ask205_175 (x:JV) {l:List JV} (hl:cntVs l<=2 ^ 30):Pure Tryz.prog W 205 [.sl 5 (encVs l) [],.ip (encV x) 0,.ip (.val (.func (.func 175) #[] #[])) 0] (bA ((testedL l).any (oneG sGt x))):=by
 have hln:=tested_ln l
 have hc1:=mut_of_pure (by rfl) (tested202 W l hl)
 have hc2:=mut_of_pure (by simp only [cloL];rfl) (any201 W (l:=testedL l) (.m206 (encV x) (.val (.func (.func 175) #[] #[])) fun v hv=>pure206_175 W x v (by have:=mem_tested hv;omega)) (by omega))
 exact pure_of_mut rfl (mut_of_sfun mixedz call205 rfl (p205_0 W (encV x) (.val (.func (.func 175) #[] #[])) l (testedL l) _) Fb10_z1)
theorem pure206_176 (x v:JV) (hv:cntV v<=2 ^ 30):Pure Tryz.prog W 206 [encV v,.ip (encV x) 0,.ip (.val (.func (.func 176) #[] #[])) 0] (bA (oneG sGte x v)):=by
 have hc3:=mut_of_pure (by simp only [cloL,encV_clo,Bool.and_self]) (compare81 W _ v x (Nat.lt_succ_self _) hv)
 obtain ⟨h2,l2⟩:=x
 obtain ⟨h,m⟩:=v
 have hc1:=mut_of_pure (by simp only [cloL,encV_clo,Bool.and_self]) (class207 W h m)
 have hc2:=mut_of_pure (by simp only [cloL,encV_clo,Bool.and_self]) (class207 W h2 l2)
 have ho:oneG sGte (.mk h2 l2) (.mk h m)=(decide (classV (.mk h m)=classV (.mk h2 l2)) && ordB sGte (cmpV (.mk h m) (.mk h2 l2))):=rfl
 rw [ho]
 by_cases e:classV (.mk h m)=classV (.mk h2 l2)
 ·refine goB (bA_inj ?_) rfl (mut_of_sfun mixedz call206 rfl (p206_176_0 W h2 l2 h m _ _ _) Fb10_z1)
  rw [decide_eq_true e,Bool.true_and];rfl
 ·refine goB (bA_inj ?_) rfl (mut_of_sfun mixedz call206 rfl (p206_176_1 W h2 l2 h m (classV (.mk h m)) (classV (.mk h2 l2))) Fb10_z1)
  rw [decide_eq_false e,Bool.false_and]
theorem ask205_176 (x:JV) {l:List JV} (hl:cntVs l<=2 ^ 30):Pure Tryz.prog W 205 [.sl 5 (encVs l) [],.ip (encV x) 0,.ip (.val (.func (.func 176) #[] #[])) 0] (bA ((testedL l).any (oneG sGte x))):=by
 have hln:=tested_ln l
 have hc1:=mut_of_pure (by rfl) (tested202 W l hl)
 have hc2:=mut_of_pure (by simp only [cloL];rfl) (any201 W (l:=testedL l) (.m206 (encV x) (.val (.func (.func 176) #[] #[])) fun v hv=>pure206_176 W x v (by have:=mem_tested hv;omega)) (by omega))
 exact pure_of_mut rfl (mut_of_sfun mixedz call205 rfl (p205_0 W (encV x) (.val (.func (.func 176) #[] #[])) l (testedL l) _) Fb10_z1)
theorem pure206_177 (x v:JV) (hv:cntV v<=2 ^ 30):Pure Tryz.prog W 206 [encV v,.ip (encV x) 0,.ip (.val (.func (.func 177) #[] #[])) 0] (bA (oneG sLt x v)):=by
 have hc3:=mut_of_pure (by simp only [cloL,encV_clo,Bool.and_self]) (compare81 W _ v x (Nat.lt_succ_self _) hv)
 obtain ⟨h2,l2⟩:=x
 obtain ⟨h,m⟩:=v
 have hc1:=mut_of_pure (by simp only [cloL,encV_clo,Bool.and_self]) (class207 W h m)
 have hc2:=mut_of_pure (by simp only [cloL,encV_clo,Bool.and_self]) (class207 W h2 l2)
 have ho:oneG sLt (.mk h2 l2) (.mk h m)=(decide (classV (.mk h m)=classV (.mk h2 l2)) && ordB sLt (cmpV (.mk h m) (.mk h2 l2))):=rfl
 rw [ho]
 by_cases e:classV (.mk h m)=classV (.mk h2 l2)
 ·refine goB (bA_inj ?_) rfl (mut_of_sfun mixedz call206 rfl (p206_177_0 W h2 l2 h m _ _ _) Fb10_z1)
  rw [decide_eq_true e,Bool.true_and];rfl
 ·refine goB (bA_inj ?_) rfl (mut_of_sfun mixedz call206 rfl (p206_177_1 W h2 l2 h m (classV (.mk h m)) (classV (.mk h2 l2))) Fb10_z1)
  rw [decide_eq_false e,Bool.false_and]
theorem ask205_177 (x:JV) {l:List JV} (hl:cntVs l<=2 ^ 30):Pure Tryz.prog W 205 [.sl 5 (encVs l) [],.ip (encV x) 0,.ip (.val (.func (.func 177) #[] #[])) 0] (bA ((testedL l).any (oneG sLt x))):=by
 have hln:=tested_ln l
 have hc1:=mut_of_pure (by rfl) (tested202 W l hl)
 have hc2:=mut_of_pure (by simp only [cloL];rfl) (any201 W (l:=testedL l) (.m206 (encV x) (.val (.func (.func 177) #[] #[])) fun v hv=>pure206_177 W x v (by have:=mem_tested hv;omega)) (by omega))
 exact pure_of_mut rfl (mut_of_sfun mixedz call205 rfl (p205_0 W (encV x) (.val (.func (.func 177) #[] #[])) l (testedL l) _) Fb10_z1)
theorem pure206_178 (x v:JV) (hv:cntV v<=2 ^ 30):Pure Tryz.prog W 206 [encV v,.ip (encV x) 0,.ip (.val (.func (.func 178) #[] #[])) 0] (bA (oneG sLte x v)):=by
 have hc3:=mut_of_pure (by simp only [cloL,encV_clo,Bool.and_self]) (compare81 W _ v x (Nat.lt_succ_self _) hv)
 obtain ⟨h2,l2⟩:=x
 obtain ⟨h,m⟩:=v
 have hc1:=mut_of_pure (by simp only [cloL,encV_clo,Bool.and_self]) (class207 W h m)
 have hc2:=mut_of_pure (by simp only [cloL,encV_clo,Bool.and_self]) (class207 W h2 l2)
 have ho:oneG sLte (.mk h2 l2) (.mk h m)=(decide (classV (.mk h m)=classV (.mk h2 l2)) && ordB sLte (cmpV (.mk h m) (.mk h2 l2))):=rfl
 rw [ho]
 by_cases e:classV (.mk h m)=classV (.mk h2 l2)
 ·refine goB (bA_inj ?_) rfl (mut_of_sfun mixedz call206 rfl (p206_178_0 W h2 l2 h m _ _ _) Fb10_z1)
  rw [decide_eq_true e,Bool.true_and];rfl
 ·refine goB (bA_inj ?_) rfl (mut_of_sfun mixedz call206 rfl (p206_178_1 W h2 l2 h m (classV (.mk h m)) (classV (.mk h2 l2))) Fb10_z1)
  rw [decide_eq_false e,Bool.false_and]
theorem ask205_178 (x:JV) {l:List JV} (hl:cntVs l<=2 ^ 30):Pure Tryz.prog W 205 [.sl 5 (encVs l) [],.ip (encV x) 0,.ip (.val (.func (.func 178) #[] #[])) 0] (bA ((testedL l).any (oneG sLte x))):=by
 have hln:=tested_ln l
 have hc1:=mut_of_pure (by rfl) (tested202 W l hl)
 have hc2:=mut_of_pure (by simp only [cloL];rfl) (any201 W (l:=testedL l) (.m206 (encV x) (.val (.func (.func 178) #[] #[])) fun v hv=>pure206_178 W x v (by have:=mem_tested hv;omega)) (by omega))
 exact pure_of_mut rfl (mut_of_sfun mixedz call205 rfl (p205_0 W (encV x) (.val (.func (.func 178) #[] #[])) l (testedL l) _) Fb10_z1)
theorem pure217_null (v:JV):Pure Tryz.prog W 217 [encV v,.ip (.sl 1 [iA 0] []) 0] (bA (decide (classV v=0))):=by
 obtain ⟨h,m⟩:=v
 by_cases e:h.kind=0
 ·refine goB (bA_inj ?_) rfl (mut_of_sfun mixedz call217 rfl (p217_null_0 W h m) Fb10_z1)
  simp [classV_mk,e]
 ·refine goB (bA_inj ?_) rfl (mut_of_sfun mixedz call217 rfl (p217_null_1 W h m) Fb10_z1)
  rw [classV_mk]
  by_cases q:h.kind=1
  ·simp [q] at e ⊢
  ·rw [if_neg q]
theorem pure217_bool (v:JV):Pure Tryz.prog W 217 [encV v,.ip (.sl 1 [iA 1,iA 2] []) 0] (bA (decide (classV v=2))):=by
 obtain ⟨h,m⟩:=v
 by_cases e:h.kind=1
 ·refine goB (bA_inj ?_) rfl (mut_of_sfun mixedz call217 rfl (p217_bool_0 W h m) Fb10_z1)
  simp [classV_mk,e]
 ·refine goB (bA_inj ?_) rfl (mut_of_sfun mixedz call217 rfl (p217_bool_1 W h m) Fb10_z1)
  rw [classV_mk]
  by_cases q:h.kind=1
  ·simp [q] at e ⊢
  ·rw [if_neg q]
theorem pure217_int (v:JV):Pure Tryz.prog W 217 [encV v,.ip (.sl 1 [iA 3] []) 0] (bA (decide (classV v=3))):=by
 obtain ⟨h,m⟩:=v
 by_cases e:h.kind=3
 ·refine goB (bA_inj ?_) rfl (mut_of_sfun mixedz call217 rfl (p217_int_0 W h m) Fb10_z1)
  simp [classV_mk,e]
 ·refine goB (bA_inj ?_) rfl (mut_of_sfun mixedz call217 rfl (p217_int_1 W h m) Fb10_z1)
  rw [classV_mk]
  by_cases q:h.kind=1
  ·simp [q] at e ⊢
  ·rw [if_neg q]
theorem pure217_string (v:JV):Pure Tryz.prog W 217 [encV v,.ip (.sl 1 [iA 4] []) 0] (bA (decide (classV v=4))):=by
 obtain ⟨h,m⟩:=v
 by_cases e:h.kind=4
 ·refine goB (bA_inj ?_) rfl (mut_of_sfun mixedz call217 rfl (p217_string_0 W h m) Fb10_z1)
  simp [classV_mk,e]
 ·refine goB (bA_inj ?_) rfl (mut_of_sfun mixedz call217 rfl (p217_string_1 W h m) Fb10_z1)
  rw [classV_mk]
  by_cases q:h.kind=1
  ·simp [q] at e ⊢
  ·rw [if_neg q]
theorem pure217_array (v:JV):Pure Tryz.prog W 217 [encV v,.ip (.sl 1 [iA 5] []) 0] (bA (decide (classV v=5))):=by
 obtain ⟨h,m⟩:=v
 by_cases e:h.kind=5
 ·refine goB (bA_inj ?_) rfl (mut_of_sfun mixedz call217 rfl (p217_array_0 W h m) Fb10_z1)
  simp [classV_mk,e]
 ·refine goB (bA_inj ?_) rfl (mut_of_sfun mixedz call217 rfl (p217_array_1 W h m) Fb10_z1)
  rw [classV_mk]
  by_cases q:h.kind=1
  ·simp [q] at e ⊢
  ·rw [if_neg q]
theorem pure217_object (v:JV):Pure Tryz.prog W 217 [encV v,.ip (.sl 1 [iA 6] []) 0] (bA (decide (classV v=6))):=by
 obtain ⟨h,m⟩:=v
 by_cases e:h.kind=6
 ·refine goB (bA_inj ?_) rfl (mut_of_sfun mixedz call217 rfl (p217_object_0 W h m) Fb10_z1)
  simp [classV_mk,e]
 ·refine goB (bA_inj ?_) rfl (mut_of_sfun mixedz call217 rfl (p217_object_1 W h m) Fb10_z1)
  rw [classV_mk]
  by_cases q:h.kind=1
  ·simp [q] at e ⊢
  ·rw [if_neg q]
theorem type_cases {s:List UInt8} (h:0<=typeN s):s=[110,117,108,108]\/s=[98,111,111,108]\/s=[105,110,116]\/s=[115,116,114,105,110,103]\/s=[97,114,114,97,121]\/s=[111,98,106,101,99,116]:=by
 unfold typeN at h
 repeat' (split at h;· simp [*])
 omega
theorem ask216 (x:JV) (hx:0<=typeN x.text) {l:List JV} (hl:cntVs l<=2 ^ 30):Pure Tryz.prog W 216 [.sl 5 (encVs l) [],.ip (.sl 1 (kindsA x.text) []) 0] (bA ((testedL l).any (fun v=>decide (classV v=typeN x.text)))):=by
 have hln:=tested_ln l
 have hc1:=mut_of_pure (by rfl) (tested202 W l hl)
 generalize hs:x.text=s at hx
 rcases type_cases hx with rfl|rfl|rfl|rfl|rfl|rfl
 ·have hc2:=mut_of_pure (by simp only [cloL];rfl) (any201 W (l:=testedL l) (.m217 (.sl 1 [iA 0] []) fun v _=>pure217_null W v) (by omega))
  exact pure_of_mut rfl (mut_of_sfun mixedz call216 rfl (p216_0 W (.sl 1 [iA 0] []) l (testedL l) _) Fb10_z1)
 ·have hc2:=mut_of_pure (by simp only [cloL];rfl) (any201 W (l:=testedL l) (.m217 (.sl 1 [iA 1,iA 2] []) fun v _=>pure217_bool W v) (by omega))
  exact pure_of_mut rfl (mut_of_sfun mixedz call216 rfl (p216_0 W (.sl 1 [iA 1,iA 2] []) l (testedL l) _) Fb10_z1)
 ·have hc2:=mut_of_pure (by simp only [cloL];rfl) (any201 W (l:=testedL l) (.m217 (.sl 1 [iA 3] []) fun v _=>pure217_int W v) (by omega))
  exact pure_of_mut rfl (mut_of_sfun mixedz call216 rfl (p216_0 W (.sl 1 [iA 3] []) l (testedL l) _) Fb10_z1)
 ·have hc2:=mut_of_pure (by simp only [cloL];rfl) (any201 W (l:=testedL l) (.m217 (.sl 1 [iA 4] []) fun v _=>pure217_string W v) (by omega))
  exact pure_of_mut rfl (mut_of_sfun mixedz call216 rfl (p216_0 W (.sl 1 [iA 4] []) l (testedL l) _) Fb10_z1)
 ·have hc2:=mut_of_pure (by simp only [cloL];rfl) (any201 W (l:=testedL l) (.m217 (.sl 1 [iA 5] []) fun v _=>pure217_array W v) (by omega))
  exact pure_of_mut rfl (mut_of_sfun mixedz call216 rfl (p216_0 W (.sl 1 [iA 5] []) l (testedL l) _) Fb10_z1)
 ·have hc2:=mut_of_pure (by simp only [cloL];rfl) (any201 W (l:=testedL l) (.m217 (.sl 1 [iA 6] []) fun v _=>pure217_object W v) (by omega))
  exact pure_of_mut rfl (mut_of_sfun mixedz call216 rfl (p216_0 W (.sl 1 [iA 6] []) l (testedL l) _) Fb10_z1)
theorem ask222 (T:List AV) (b:Bool) {l:List JV} (h:Pure Tryz.prog W 223 [.sl 7 T [],.sl 5 (encVs l) []] (bA b)):Pure Tryz.prog W 222 [.sl 5 (encVs l) [],.ip (.sl 7 T []) 0] (bA (!b)):=by
 have hc:=mut_of_pure (by rfl) h
 exact pure_of_mut rfl (mut_of_sfun mixedz call222 rfl (p222_0 W T l b) Fb10_z1)
theorem pure225 (T:List AV) (b:Bool) {y:JV} (h:Pure Tryz.prog W 223 [.sl 7 T [],.sl 5 (encVs [y]) []] (bA b)):Pure Tryz.prog W 225 [encV y,.ip (.sl 7 T []) 0] (bA b):=by
 have hc:MutC Tryz.prog W 223 [.sl 7 T [],.gs 100001 0 1] [(100001,.arr 25 5 [encV y] .own)] (.ret (bA b) [(100001,.arr 25 5 [encV y] .own)]) :=
  mut_of_pureFlat (by intro p hp;simp only [List.mem_singleton] at hp;subst hp;exact ⟨by simp [hg],by simp [Frzable,cloL,encV_clo]⟩) rfl (by rfl) rfl h
 obtain ⟨hh,m⟩:=y
 exact pure_of_mut rfl (mut_of_sfun mixedz call225 rfl (p225_0 W T hh m b) Fb10_z1)
theorem pure226 (N:List AV) (b:Bool) {y:JV} (h:y.kind=6->Pure Tryz.prog W 64 [.agg [.sl 1 N []],encV y] (bA b)):Pure Tryz.prog W 226 [encV y,.ip (.agg [.sl 1 N []]) 0] (bA (decide (y.kind=6) && b)):=by
 obtain ⟨hh,m⟩:=y
 by_cases e:hh.kind=6
 ·have hc:=mut_of_pure (by simp only [cloL,encV_clo,Bool.and_self];rfl) (h e)
  refine goB (bA_inj ?_) rfl (mut_of_sfun mixedz call226 rfl (p226_0 W N hh m b) Fb10_z1)
  simp [JV.kind,JV.hd,e]
 ·refine goB (bA_inj ?_) rfl (mut_of_sfun mixedz call226 rfl (p226_1 W N hh m) Fb10_z1)
  simp [JV.kind,JV.hd,e]
theorem pure228_225 (c:AV) (p:JV->Bool) (v:JV) (hv:cntV v<=2 ^ 30) (h:∀ y ∈ v.items,Pure Tryz.prog W 225 [encV y,.ip c 0] (bA (p y))):Pure Tryz.prog W 228 [encV v,.ip (.fn (.func 225) [] [.ip c 0]) 0] (bA (decide (v.kind=5) && v.items.any p)):=by
 have hcl:=cntV_len v
 have hc:=mut_of_pure (by simp only [cloL];rfl) (any201 W (l:=v.items) (.m225 c h) (by omega))
 obtain ⟨hh,m⟩:=v
 by_cases e:hh.kind=5
 ·refine goB (bA_inj ?_) rfl (mut_of_sfun mixedz call228 rfl (p228_225_0 W c hh m _) Fb10_z1)
  simp [JV.kind,JV.hd,e]
 ·refine goB (bA_inj ?_) rfl (mut_of_sfun mixedz call228 rfl (p228_225_1 W c hh m) Fb10_z1)
  simp [JV.kind,JV.hd,e]
theorem pure228_226 (c:AV) (p:JV->Bool) (v:JV) (hv:cntV v<=2 ^ 30) (h:∀ y ∈ v.items,Pure Tryz.prog W 226 [encV y,.ip c 0] (bA (p y))):Pure Tryz.prog W 228 [encV v,.ip (.fn (.func 226) [] [.ip c 0]) 0] (bA (decide (v.kind=5) && v.items.any p)):=by
 have hcl:=cntV_len v
 have hc:=mut_of_pure (by simp only [cloL];rfl) (any201 W (l:=v.items) (.m226 c h) (by omega))
 obtain ⟨hh,m⟩:=v
 by_cases e:hh.kind=5
 ·refine goB (bA_inj ?_) rfl (mut_of_sfun mixedz call228 rfl (p228_226_0 W c hh m _) Fb10_z1)
  simp [JV.kind,JV.hd,e]
 ·refine goB (bA_inj ?_) rfl (mut_of_sfun mixedz call228 rfl (p228_226_1 W c hh m) Fb10_z1)
  simp [JV.kind,JV.hd,e]
theorem ask227 (c:AV) (p:JV->Bool) {l:List JV} (hl:cntVs l<=2 ^ 30) (h:∀ v ∈ l,Pure Tryz.prog W 228 [encV v,.ip c 0] (bA (p v))):Pure Tryz.prog W 227 [.sl 5 (encVs l) [],.ip c 0] (bA (l.any p)):=by
 have hln:=cntVs_len l
 have hc:=mut_of_pure (by simp only [cloL];rfl) (any201 W (l:=l) (.m228 c h) (by omega))
 exact pure_of_mut rfl (mut_of_sfun mixedz call227 rfl (p227_0 W c l _) Fb10_z1)
theorem op_cases {s:List UInt8} (h:isOp s=true):s=sEq\/s=sNe\/s=sGt\/s=sGte\/s=sLt\/s=sLte\/s=sIn\/s=sNin\/s=sAll\/s=sExists\/s=sType\/s=sSize\/s=sMod\/s=sNot\/s=sElem:=by
 simpa [isOp] using h
theorem ask_ok (A:JV->List JV->Bool) (M:JV->JV->Bool) (T N:List AV) (name:List UInt8) (x:JV) (hop:isOp name=true) (htk:takesB name x=true) (hx:cntV x<=2 ^ 30)
 (hT:(name=sNot\/(name=sElem/\(isTestB x && !joinsB (firstS x))=true))->∀ l,cntVs l<=2 ^ 30->Pure Tryz.prog W 223 [.sl 7 T [],.sl 5 (encVs l) []] (bA (A x l)))
 (hQ:name=sElem->(isTestB x && !joinsB (firstS x))=false->∀ d,cntV d<=2 ^ 30->Pure Tryz.prog W 64 [.agg [.sl 1 N []],encV d] (bA (M x d)))
 {l:List JV} (hl:cntVs l<=2 ^ 30):AskC W l (opG A M name x l) (asksA T N name x):=by
 rcases op_cases hop with rfl|rfl|rfl|rfl|rfl|rfl|rfl|rfl|rfl|rfl|rfl|rfl|rfl|rfl|rfl
 ·exact .a170 _ (ask170 W x hl)
 ·exact .a173 _ (ask173 W x hl)
 ·exact .a205 _ _ (ask205_175 W x hl)
 ·exact .a205 _ _ (ask205_176 W x hl)
 ·exact .a205 _ _ (ask205_177 W x hl)
 ·exact .a205 _ _ (ask205_178 W x hl)
 ·have h:=ask210 W x true hl hx
  rw [show (∀ b:Bool,(b == true)=b) from by decide] at h
  exact .a210 _ _ h
 ·have h:=ask210 W x false hl hx
  rw [show (∀ b:Bool,(b == false)=!b) from by decide] at h
  exact .a210 _ _ h
 ·exact .a212 _ (ask212 W x hl hx)
 ·exact .a214 _ (ask214 W x)
 ·have ht:0<=typeN x.text:=by
   have:takesB sType x=(decide (x.kind=4) && decide (0<=typeN x.text)):=rfl
   rw [this] at htk
   simp only [Bool.and_eq_true,decide_eq_true_eq] at htk
   exact htk.2
  exact .a216 _ (ask216 W x ht hl)
 ·exact .a218 _ (ask218 W x hl)
 ·obtain ⟨a,b,hi,ha⟩:∃ a b,x.items=[a,b]/\a.int ≠ 0:=by
   have:takesB sMod x=(decide (x.kind=5) && (match x.items with|[a,b]=>decide (a.kind=3) && decide (b.kind=3) && !decide (a.int=0)|_=>false)):=rfl
   rw [this] at htk
   simp only [Bool.and_eq_true] at htk
   obtain ⟨_,h2⟩:=htk
   split at h2
   ·rename_i a b e
    simp only [Bool.and_eq_true,Bool.not_eq_true',decide_eq_false_iff_not] at h2
    exact ⟨a,b,e,h2.2⟩
   ·cases h2
  exact .a220 _ (ask220 W x a b hi ha hl)
 ·exact .a222 _ (ask222 W T _ (hT (.inl rfl) l hl))
 ·cases e:(isTestB x && !joinsB (firstS x)) with
  | true =>
   have ea:asksA T N sElem x=.fn (.func 227) [] [.ip (.fn (.func 225) [] [.ip (.sl 7 T []) 0]) 0]:=by
    show AV.fn (.func 227) [] [.ip (if (isTestB x && !joinsB (firstS x))=true then _ else _) 0]=_
    rw [if_pos e]
   have eo:opG A M sElem x l=l.any (fun v=>decide (v.kind=5) && v.items.any (fun y=>A x [y])):=by
    show l.any (fun v=>decide (v.kind=5) && v.items.any (fun y=>if (isTestB x && !joinsB (firstS x))=true then A x [y] else decide (y.kind=6) && M x y))=_
    simp only [e,if_true]
   rw [ea,eo]
   exact .a227 _ (ask227 W _ _ hl fun v hv=>pure228_225 W _ _ v (by have:=mem_cnt hv;omega) fun y hy=>pure225 W T _ (hT (.inr ⟨rfl,e⟩) [y] (by
    have h1:=mem_cnt hv
    obtain ⟨i,hi⟩:=List.getElem?_of_mem hy
    have h2:=cntV_item hi
    simp only [cntVs];omega)))
  | false =>
   have ea:asksA T N sElem x=.fn (.func 227) [] [.ip (.fn (.func 226) [] [.ip (.agg [.sl 1 N []]) 0]) 0]:=by
    show AV.fn (.func 227) [] [.ip (if (isTestB x && !joinsB (firstS x))=true then _ else _) 0]=_
    rw [if_neg (by rw [e];simp)]
   have eo:opG A M sElem x l=l.any (fun v=>decide (v.kind=5) && v.items.any (fun y=>decide (y.kind=6) && M x y)):=by
    show l.any (fun v=>decide (v.kind=5) && v.items.any (fun y=>if (isTestB x && !joinsB (firstS x))=true then A x [y] else decide (y.kind=6) && M x y))=_
    simp only [e];rfl
   rw [ea,eo]
   exact .a227 _ (ask227 W _ _ hl fun v hv=>pure228_226 W _ _ v (by have:=mem_cnt hv;omega) fun y hy=>pure226 W N _ fun _=>hQ rfl e y (by
    have h1:=mem_cnt hv
    obtain ⟨i,hi⟩:=List.getElem?_of_mem hy
    have h2:=cntV_item hi
    omega))
end
end Go.Ac

