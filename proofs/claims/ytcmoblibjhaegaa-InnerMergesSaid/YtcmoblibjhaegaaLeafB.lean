/-
  Package leaf: Find, spliced, cut, joined, fit.
-/
import Derived.Test.YtcmoblibjhaegaaLeafP
namespace Go.Proofs.Ytcmoblibjhaegaa
open Go.RowKit

def findN (b : Bool) (ks vs : List Int) (key : Int) : Nat := if rightB b ks vs = true then lowN key ks else 0
def findB (b : Bool) (ks vs : List Int) (key : Int) : Bool := rightB b ks vs && hasB key ks
theorem rightB_rise {b : Bool} {ks vs : List Int} (h : rightB b ks vs = true) : riseB ks = true := by
  unfold rightB at h
  simp only [Bool.and_eq_true] at h
  exact h.2


theorem reads3 {w : World} {g : Nat} {t : TypeId} {cs : List Value} {n : Nat} (h : Blk w g t cs.toArray) (hn : cs.length = n) : Reads w (g + 1) 1 (some ⟨g, 0, none⟩) n cs := by
  have := Reads.blk h n 1 (by simp [hn])
  simpa using this

end Go.Proofs.Ytcmoblibjhaegaa
