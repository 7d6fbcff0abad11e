/-
  A thread that announces itself, and one that leaves: what they become of what they are told, in plain Lean.
-/
import Derived.Test.YthmkhcmgpkngmaaDoorPlain
import Derived.Test.YthmkhcmgpkngmaaDoorAword
import Derived.Test.YthmkhcmgpkngmaaDoorLayP
namespace Go.Proofs.YthmkhcmgpkngmaaDoor
open Go.RowKit

/-- The step, whether it is slow, the epoch and the clock that were loaded. -/
def EnOk (x : Int × Bool × Int × Int) : Prop := (x.1 = 0 ∨ x.1 = 1 ∨ x.1 = 2 ∨ x.1 = 3 ∨ x.1 = 4) ∧ W64 x.2.2.1 ∧ W64 x.2.2.2
def eTook (x : Int × Bool × Int × Int) (g : Int) : Int × Bool × Int × Int :=
  if x.1 = 0 then x
  else if x.1 = 1 then (2, x.2.1 || (g % 4 == 2), x.2.2.1, x.2.2.2)
  else if x.1 = 2 then (3, x.2.1, g, x.2.2.2)
  else if x.1 = 3 then (4, x.2.1, x.2.2.1, g)
  else (0, x.2.1, x.2.2.1, x.2.2.2)
theorem eTook_ok {x : Int × Bool × Int × Int} {g : Int} (h : EnOk x) (hg : W64 g) : EnOk (eTook x g) := by
  obtain ⟨h1, h2, h3⟩ := h
  unfold eTook
  split
  · exact ⟨h1, h2, h3⟩
  split
  · exact ⟨by simp, h2, h3⟩
  split
  · exact ⟨by simp, hg, h3⟩
  split
  · exact ⟨by simp, h2, hg⟩
  · exact ⟨by simp, h2, h3⟩
def eAsk (th : Int) (x : Int × Bool × Int × Int) : Int × Int × Int × Int :=
  if x.1 = 1 then (1, 3 + th, 0, 0)
  else if x.1 = 2 then (1, 0, 0, 0)
  else if x.1 = 3 then (1, 1, 0, 0)
  else if x.1 = 4 then (2, 3 + th, 0, amake (if x.2.1 = true then 3 else 1) x.2.2.1 x.2.2.2)
  else (0, 0, 0, 0)
/-- It, told so many of a list. -/
def eAll (x : Int × Bool × Int × Int) (l : List Int) : Nat → Int × Bool × Int × Int
  | 0 => x
  | k + 1 => eTook (eAll x l k) (l.getD k 0)
theorem eAll_ok {x : Int × Bool × Int × Int} {l : List Int} (h : EnOk x) (hl : ∀ y ∈ l, W64 y) : ∀ k, EnOk (eAll x l k)
  | 0 => h
  | k + 1 => by
    refine eTook_ok (eAll_ok h hl k) ?_
    by_cases hk : k < l.length
    · rw [show l.getD k 0 = l[k] by simp [List.getD, hk]]
      exact hl _ (List.getElem_mem hk)
    · rw [show l.getD k 0 = 0 by simp [List.getD, hk]]
      exact ⟨by omega, by omega⟩
end Go.Proofs.YthmkhcmgpkngmaaDoor
