/- What is proved: contracts of functions of this translation, walked; their plain meaning. No condition beyond those that each theorem names. -/
import Derived.Test.YtohlmhkiejpkgaaGreatDoorPl2
import Derived.Test.YtohlmhkiejpkgaaGreatDoorFb16
set_option linter.all false
namespace Go.Ac
open Go
theorem chk_mem {n:Nat} {q:JV} {d c c':Int} (h:chkQ (n+1) q d c=.ok c') {p:List UInt8×JV} (hp:p ∈ q.mems) :
 (joinsB p.1=true/\∀ y ∈ p.2.items,∃ u u',chkQ n y (d+1) u=.ok u')\/(joinsB p.1=false/\dollarB p.1=false/\parseE p.1=0):=by
 rw [chkQ] at h
 split at h
 ·cases h
 split at h
 ·cases h
 obtain ⟨u,u',hu⟩:=foldX_all h p hp
 cases hj:joinsB p.1 with
 | true =>
  rw [hj] at hu
  simp only [if_true] at hu
  split at hu
  ·cases hu
  ·exact .inl ⟨rfl,fun y hy=>foldX_all hu y hy⟩
 | false =>
  rw [hj] at hu
  simp only [Bool.false_eq_true,if_false] at hu
  cases hd:dollarB p.1 with
  | true=>rw [hd] at hu;simp at hu
  | false =>
   rw [hd] at hu
   simp only [Bool.false_eq_true,if_false] at hu
   by_cases hE:parseE p.1=0
   ·exact .inr ⟨rfl,rfl,hE⟩
   ·rw [if_pos hE] at hu;cases hu
end Go.Ac

