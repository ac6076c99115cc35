/- What is proved: contracts of functions of this translation, walked; their plain meaning. No condition beyond those that each theorem names. -/
import Derived.Test.YtohlmhkiejpkgaaGreatDoorPt
import Derived.Test.YtohlmhkiejpkgaaGreatDoorFo2
set_option linter.all false
namespace Go.Ac
open Go
theorem chk_test {n:Nat} {q:JV} {d c c':Int} (h:chkQ (n+1) q d c=.ok c') {p:List UInt8×JV} (hp:p ∈ q.mems) (hj:joinsB p.1=false) (ht:isTestB p.2=true):∃ d u u',chkT n p.2 d u=.ok u':=by
 rw [chkQ] at h
 split at h
 ·cases h
 split at h
 ·cases h
 obtain ⟨u,u',hu⟩:=foldX_all h p hp
 rw [hj] at hu
 simp only [Bool.false_eq_true,if_false] at hu
 split at hu
 ·cases hu
 split at hu
 ·cases hu
 first|exact ⟨_,_,_,hu⟩|(rw [if_pos ht] at hu;exact ⟨_,_,_,hu⟩)
end Go.Ac

