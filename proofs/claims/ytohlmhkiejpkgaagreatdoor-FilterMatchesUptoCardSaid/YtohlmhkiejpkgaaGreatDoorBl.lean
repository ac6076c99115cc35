/- What is proved: contracts of functions of this translation, walked; their plain meaning. No condition beyond those that each theorem names. -/
import Derived.Test.YtohlmhkiejpkgaaGreatDoorMa5
import Derived.Test.YtohlmhkiejpkgaaGreatDoorFb14
set_option linter.all false
namespace Go.Ac
open Go
theorem blL_str:∀ p:List (List UInt8),p.length<=bl.blL (p.map AV.str)/\∀ s ∈ p,s.length<=bl.blL (p.map AV.str)
 | []=>⟨by simp,by simp⟩
 | s::p=>by
  obtain ⟨h1,h2⟩:=blL_str p
  simp only [List.map_cons,bl.blL,bl,List.length_cons,List.mem_cons]
  refine ⟨by omega,fun x hx=>?_⟩
  rcases hx with rfl|hx
  ·omega
  ·have:=h2 x hx;omega
mutual
theorem bl_val:∀ j:JV,cntV j<=bl (encV j)/\∀ B,bl (encV j)<=B->B<=2 ^ 30->nmV j
 | .mk h l=>by
  obtain ⟨a1,a2⟩:=bl_vals l
  obtain ⟨b1,b2⟩:=blL_str h.names
  have e:bl (encV (.mk h l))=h.text.length+1+(bl.blL (h.names.map AV.str)+1)+(bl.blL (encVs l)+1):=by
   simp only [encV,bl,bl.blL];omega
  rw [e]
  refine ⟨by simp only [cntV];omega,fun B h1 h2=>?_⟩
  simp only [nmV]
  exact ⟨fun s hs=>by have:=b2 s hs;omega,a2 B (by omega) h2⟩
theorem bl_vals:∀ l:List JV,cntVs l<=bl.blL (encVs l)/\∀ B,bl.blL (encVs l)<=B->B<=2 ^ 30->nmVs l
 | []=>⟨by simp [cntVs],fun _ _ _=>trivial⟩
 | j::l=>by
  obtain ⟨a1,a2⟩:=bl_val j
  obtain ⟨b1,b2⟩:=bl_vals l
  simp only [encVs,bl.blL,cntVs,nmVs]
  exact ⟨by omega,fun B h1 h2=>⟨a2 B (by omega) h2,b2 B (by omega) h2⟩⟩
end
end Go.Ac

