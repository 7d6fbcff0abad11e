/-
  A Pop: what it becomes of what it is told, in plain Lean.
-/
import Derived.Test.YthmkhcmgpkngmaaDoorPlain
import Derived.Test.YthmkhcmgpkngmaaDoorHword
import Derived.Test.YthmkhcmgpkngmaaDoorLayP
import Derived.WalkKit
namespace Go.Proofs.YthmkhcmgpkngmaaDoor
open Go.RowKit

/-- The step, the slot, the head, the tries, the link. -/
def PpOk (s : Int) (x : Int × Int × Int × Int × Int) : Prop := (x.1 = 0 ∨ x.1 = 1 ∨ x.1 = 2 ∨ x.1 = 3) ∧ W64 x.2.2.1 ∧ (0 ≤ x.2.2.2.2 ∧ x.2.2.2.2 ≤ 1000) ∧ ((x.1 = 2 ∨ x.1 = 3) → 1 ≤ x.2.1 ∧ x.2.1 ≤ s)
def pTook (s : Int) (x : Int × Int × Int × Int × Int) (g : Int) : Int × Int × Int × Int × Int :=
  if x.1 = 0 then x
  else if x.1 = 1 then (if 1 ≤ g % 65536 ∧ g % 65536 ≤ s then (2, g % 65536, g, x.2.2.2.1, x.2.2.2.2) else (0, 0, g, x.2.2.2.1, x.2.2.2.2))
  else if x.1 = 2 then (3, x.2.1, x.2.2.1, x.2.2.2.1, if g ≤ s then g else 0)
  else if g = 1 then (0, x.2.1, x.2.2.1, x.2.2.2.1, x.2.2.2.2)
  else (1, x.2.1, x.2.2.1, wrap64 (x.2.2.2.1 + 1), x.2.2.2.2)
theorem pTook_ok {s g : Int} {x : Int × Int × Int × Int × Int} (h : PpOk s x) (hg : W64 g) (hs : x.1 = 0 ∨ s ≤ 1000) : PpOk s (pTook s x g) := by
  obtain ⟨h1, h2, h3, h4⟩ := h
  unfold pTook
  split
  · exact ⟨h1, h2, h3, h4⟩
  · next h0 =>
    have hs := hs.resolve_left h0
    split
    · split
      · next h => exact ⟨by simp, hg, h3, fun _ => h⟩
      · exact ⟨by simp, hg, h3, by simp⟩
    · split
      · next h => exact ⟨by simp, h2, by dsimp only; split; exact ⟨hg.1, by omega⟩; omega, fun _ => h4 (.inl h)⟩
      · next h1' h2' =>
        split
        · exact ⟨by simp, h2, h3, by simp⟩
        · exact ⟨by simp, h2, h3, by simp⟩
def pAsk (t f : Int) (x : Int × Int × Int × Int × Int) : Int × Int × Int × Int :=
  if x.1 = 1 then (1, 2, 0, 0)
  else if x.1 = 2 then (1, 3 + 3 * t + x.2.1 * (3 + 2 * f) + 2, 0, 0)
  else if x.1 = 3 then (3, 2, x.2.2.1, hturn x.2.2.1 x.2.2.2.2)
  else (0, 0, 0, 0)
end Go.Proofs.YthmkhcmgpkngmaaDoor
